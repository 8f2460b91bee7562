/- Part 2 of a proof of this: TopKeys returns true for any arguments; nothing of the old memory is turned. No condition. -/
import Derived.Test.YtccekbdjebohcaaGreatK01
set_option linter.unusedVariables false
set_option linter.unusedSimpArgs false
namespace Go.Bs
class rZ (P:Program) (t:TypeId) (len:outParam Nat) (el:outParam TypeId) (n:outParam Nat):Prop where
 lS:P.underlying t=some (.array len el)
 B7:∀ w,(sizeOf el).run P w=.ok n w
def cW (a:UInt32):Value:=.int .u32 (a.toNat:Int)
theorem gC (l:List UInt32):∀ c∈l.map cW,c.oneCell'=true:=fun c hc=>by
 obtain ⟨x,_,rfl⟩:=aE.1 hc
 rfl
theorem TY (n:Nat):IntKind.u32.wrap (n:Int)=((n % 4294967296:Nat):Int):=by
 unfold IntKind.wrap;simp only [IntKind.bits,IntKind.signed]
 simp
theorem w8 (n:Nat):IntKind.u8.wrap (n:Int)=((n % 256:Nat):Int):=by
 unfold IntKind.wrap;simp only [IntKind.bits,IntKind.signed]
 simp
theorem OF (a b:UInt32):IntKind.u32.wrap ((a.toNat:Int)+(b.toNat:Int))=((a+b).toNat:Int):=by
 rw [← Int.natCast_add,TY,UInt32.toNat_add]
theorem mx (a:UInt32):BitVec.ofInt 32 (a.toNat:Int)=a.toBitVec:=by
 apply BitVec.eq_of_toNat_eq
 simp
theorem u32_and (a b:UInt32):Go.bits .and .u32 (a.toNat:Int) (b.toNat:Int)=((a &&& b).toNat:Int):=by
 show IntKind.u32.wrap (((BitVec.ofInt 32 (a.toNat:Int) &&& BitVec.ofInt 32 (b.toNat:Int)).toNat:Nat):Int)=_
 rw [mx,mx]
 show IntKind.u32.wrap (((a &&& b).toNat:Nat):Int)=_
 rw [TY,Nat.mod_eq_of_lt (a &&& b).toNat_lt]
theorem u32_or (a b:UInt32):Go.bits .or .u32 (a.toNat:Int) (b.toNat:Int)=((a ||| b).toNat:Int):=by
 show IntKind.u32.wrap (((BitVec.ofInt 32 (a.toNat:Int) ||| BitVec.ofInt 32 (b.toNat:Int)).toNat:Nat):Int)=_
 rw [mx,mx]
 show IntKind.u32.wrap (((a ||| b).toNat:Nat):Int)=_
 rw [TY,Nat.mod_eq_of_lt (a ||| b).toNat_lt]
theorem u32_xor (a b:UInt32):Go.bits .xor .u32 (a.toNat:Int) (b.toNat:Int)=((a ^^^ b).toNat:Int):=by
 show IntKind.u32.wrap (((BitVec.ofInt 32 (a.toNat:Int) ^^^ BitVec.ofInt 32 (b.toNat:Int)).toNat:Nat):Int)=_
 rw [mx,mx]
 show IntKind.u32.wrap (((a ^^^ b).toNat:Nat):Int)=_
 rw [TY,Nat.mod_eq_of_lt (a ^^^ b).toNat_lt]
theorem OG (a:UInt32) (n:Int) (h:0≤n∧n<32):((a.toNat:Int)).fdiv (2 ^ (min n.toNat 32))=((a >>> UInt32.ofNat n.toNat).toNat:Int):=by
 obtain ⟨m,rfl⟩:=Int.eq_ofNat_of_zero_le h.1;have hm:m<32:=by omega
 rw [UInt32.toNat_shiftRight,Int.toNat_natCast,Nat.min_eq_left (by omega),UInt32.toNat_ofNat_of_lt' (by simp only [UInt32.size];omega),Nat.mod_eq_of_lt hm,Nat.shiftRight_eq_div_pow];rw [Int.fdiv_eq_ediv_of_nonneg _ (Int.pow_nonneg (by decide))]
 simp
theorem OH (a:UInt32) (n:Int) (h:0≤n∧n<32):IntKind.u32.wrap ((a.toNat:Int)*(2 ^ (min n.toNat 32)))=((a <<< UInt32.ofNat n.toNat).toNat:Int):=by
 obtain ⟨m,rfl⟩:=Int.eq_ofNat_of_zero_le h.1;have hm:m<32:=by omega
 rw [UInt32.toNat_shiftLeft,Int.toNat_natCast,Nat.min_eq_left (by omega),UInt32.toNat_ofNat_of_lt' (by simp only [UInt32.size];omega),Nat.mod_eq_of_lt hm,Nat.shiftLeft_eq];rw [show ((a.toNat:Int)*2 ^ m)=((a.toNat*2 ^ m:Nat):Int) by simp,TY]
section
variable {P:Program} {N:Fr} {Q:fO} {σ:Env} {e:World} {L:List cJ} {all:Array Oper} {rest:List Oper}
variable {d:Nat} {op:Op} {ty:TypeId} {pos:String} {af:Array Edge} {gd:Option (Nat × Bool)} {K:Env→List cJ→Prop} {x y:Operand} {t t':TypeId} {k k':IntKind} {a b:UInt32}
theorem cD.nQ (h:ev σ x=some (cW a)) (h1:ev σ y=some (cW b)):cD P N (.binOp .add t x y t') ty (cW (a+b)) σ e L:=by
 have:=cD.add (P:=P) (N:=N) (ty:=ty) (e:=e) (L:=L) (t:=t) (t':=t') h h1;rw [OF] at this
 exact this
theorem cD.pO (h:ev σ x=some (cW a)) (h1:ev σ y=some (cW b)):cD P N (.binOp .xor t x y t') ty (cW (a ^^^ b)) σ e L:=by
 have:=cD.bits (P:=P) (N:=N) (ty:=ty) (e:=e) (L:=L) (t:=t) (t':=t') .xor (by simp) h h1;rw [u32_xor] at this
 exact this
theorem cD.DP (h:ev σ x=some (cW a)) (h1:ev σ y=some (cW b)):cD P N (.binOp .and t x y t') ty (cW (a &&& b)) σ e L:=by
 have:=cD.bits (P:=P) (N:=N) (ty:=ty) (e:=e) (L:=L) (t:=t) (t':=t') .and (by simp) h h1;rw [u32_and] at this
 exact this
theorem cD.TZ (h:ev σ x=some (cW a)) (h1:ev σ y=some (cW b)):cD P N (.binOp .or t x y t') ty (cW (a ||| b)) σ e L:=by
 have:=cD.bits (P:=P) (N:=N) (ty:=ty) (e:=e) (L:=L) (t:=t) (t':=t') .or (by simp) h h1;rw [u32_or] at this
 exact this
theorem cD.xT {n:Int} (h:ev σ x=some (cW a)) (h1:ev σ y=some (.int k' n)) (h0:0≤n∧n<32):cD P N (.binOp .shr t x y t') ty (cW (a >>> UInt32.ofNat n.toNat)) σ e L:=by
 have:=cD.shr (P:=P) (N:=N) (ty:=ty) (e:=e) (L:=L) (t:=t) (t':=t') h h1 h0.1;rw [show IntKind.u32.bits=32 from rfl,OG a n h0] at this
 exact this
theorem cD.DQ {n:Int} (h:ev σ x=some (cW a)) (h1:ev σ y=some (.int k' n)) (h0:0≤n∧n<32):cD P N (.binOp .shl t x y t') ty (cW (a <<< UInt32.ofNat n.toNat)) σ e L:=by
 have:=cD.shl (P:=P) (N:=N) (ty:=ty) (e:=e) (L:=L) (t:=t) (t':=t') h h1 h0.1;rw [show IntKind.u32.bits=32 from rfl,OH a n h0] at this
 exact this
theorem cD.Iz (h:ev σ x=some (cW a)):cD P N (.unOp .xor t x) ty (cW (~~~a)) σ e L:=fun b w ha _ _ _ _ _=>by
 have h1:=u32_xor (UInt32.ofNat 4294967295) a
 have h2:UInt32.ofNat 4294967295 ^^^ a = ~~~a:=by
  apply UInt32.eq_of_toBitVec_eq;rw [UInt32.toBitVec_xor,UInt32.toBitVec_not,← BitVec.allOnes_xor]
  rfl
 rw [h2] at h1
 have h3:IntKind.u32.max=((UInt32.ofNat 4294967295).toNat:Int):=rfl;simp only [execOp,ha.ev h,cW,Op.unary,IntKind.signed,Bool.false_eq_true,if_false,h3,intBits_xor,h1]
 simp
theorem cD.neg {m:Int} (h:ev σ x=some (.int k m)):cD P N (.unOp .neg t x) ty (.int k (k.wrap (0 - m))) σ e L:=fun b w ha _ _ _ _ _=>by
 simp [execOp,ha.ev h,Op.unary,Op.intArith]
theorem cD.r5 {s:TypeId} [i:iu P s .u32] [j:iu P t .u8] (h:ev σ x=some (cW a)):cD P N (.convert s t x) ty (u8 a.toUInt8) σ e L:=by
 have:=cD.jP (P:=P) (N:=N) (ty:=ty) (e:=e) (L:=L) (s:=s) (t:=t) h
 rw [w8] at this
 exact this
theorem cD.r6 {s:TypeId} [i:iu P s .u8] [j:iu P t .u32] {c:UInt8} (h:ev σ x=some (u8 c)):cD P N (.convert s t x) ty (cW c.toUInt32) σ e L:=by
 have:=cD.jP (P:=P) (N:=N) (ty:=ty) (e:=e) (L:=L) (s:=s) (t:=t) h
 rw [TY,Nat.mod_eq_of_lt (by have:=c.toNat_lt;omega)] at this
 exact this
theorem cD.dG {len el n g o:Nat} {i:Int} [s:rZ P t len el n] (h:ev σ x=some (.pointer (some ⟨g,o,none⟩))) (h1:ev σ y=some (.int k i)) (h0:0≤i∧i<len) :
 cD P N (.indexAddr t x y) ty (.pointer (some ⟨g,o+i.toNat*n,none⟩)) σ e L:=fun a w ha _ _ _ _ _=>by
 have h2:¬ (i<0):=by omega
 simp [execOp,ha.ev h,ha.ev h1,Instr.indexAt,run_underlying s.lS,asIntOf,h0.1,h0.2,s.B7,Instr.sureAddr,Addr.add_lit]
theorem cD.dX {len el g o i:Nat} [s:rZ P t len el 1] (h:ev σ x=some (.pointer (some ⟨g,o,none⟩))) (h1:ev σ y=some (.int k (i:Int))) (h0:i<len) :
 cD P N (.indexAddr t x y) ty (.pointer (some ⟨g,o+i,none⟩)) σ e L:=by
 have:=cD.dG (P:=P) (N:=N) (ty:=ty) (e:=e) (L:=L) (t:=t) h h1 ⟨by omega,by omega⟩
 simpa using this
theorem cD.Gs {len el i:Nat} {cs:List Value} {v:Value} [s:rZ P t len el 1] [q:dL P el] (h:ev σ x=some (.agg cs.toArray)) (h1:ev σ y=some (.int k (i:Int))) (h0:i<len) (hv:cs[i]?=some v) :
 cD P N (.index t x y) ty v σ e L:=fun a w ha _ _ _ _ _=>by
 have hc:(cs.toArray)[i]?=some v:=by simpa using hv
 simp [execOp,ha.ev h,ha.ev h1,Instr.index,run_underlying s.lS,asIntOf,h0,s.B7,part,q.ag,hv]
theorem cD.mF {len el n:Nat} {z:Value} {parts:List (Nat × Operand)} {vs:List (Nat × Value)} {cs:List Value} [s:rZ P t len el n] [j:fv P t z] (h:uU σ parts=some vs) (hlen:vs.length=len) (hz:z.cells.size=len*n) (hc:gS n 0 vs cs) :
 cD P N (.build t parts.toArray) ty (.agg cs.toArray) σ e L:=fun a w ha _ _ _ _ _=>by
 have UC:(parts.toArray.map fun x=>match x with|(i,x)=>(i,a.eval x)).toList=vs:=by
  have:=ha.uU h
  simpa using this
 have hf:=hc.fill z.cells (by rw [aC,hlen];exact hz);simp only [Nat.zero_mul,List.take_zero,List.nil_append] at hf
 have h3:(Instr.build t (parts.toArray.map fun x=>match x with|(i,x)=>(i,a.eval x))).run P w=.ok (.agg cs.toArray) w:=by
  unfold Instr.build;rw [UC];simp only [Sem.run_bind,j.run,Result.andThen_ok,run_underlying s.lS,s.B7,hf]
  rfl
 simp only [execOp,Sem.run_bind,Sem.run_pure,h3,Result.andThen_ok]
theorem O.nQ (h:ev σ x=some (cW a)) (h1:ev σ y=some (cW b)) (hd:Nat.blt d N.n=true) (kk:O P N all rest Q ((d,cW (a+b))::σ) e L):O P N all (⟨some d,.binOp .add t x y t',ty,pos,af,none⟩::rest) Q σ e L:=bx _ (cD.nQ h h1) hd kk
theorem O.pO (h:ev σ x=some (cW a)) (h1:ev σ y=some (cW b)) (hd:Nat.blt d N.n=true) (kk:O P N all rest Q ((d,cW (a ^^^ b))::σ) e L):O P N all (⟨some d,.binOp .xor t x y t',ty,pos,af,none⟩::rest) Q σ e L:=bx _ (cD.pO h h1) hd kk
theorem O.DP (h:ev σ x=some (cW a)) (h1:ev σ y=some (cW b)) (hd:Nat.blt d N.n=true) (kk:O P N all rest Q ((d,cW (a &&& b))::σ) e L):O P N all (⟨some d,.binOp .and t x y t',ty,pos,af,none⟩::rest) Q σ e L:=bx _ (cD.DP h h1) hd kk
theorem O.TZ (h:ev σ x=some (cW a)) (h1:ev σ y=some (cW b)) (hd:Nat.blt d N.n=true) (kk:O P N all rest Q ((d,cW (a ||| b))::σ) e L):O P N all (⟨some d,.binOp .or t x y t',ty,pos,af,none⟩::rest) Q σ e L:=bx _ (cD.TZ h h1) hd kk
theorem O.xT {n:Int} (h:ev σ x=some (cW a)) (h1:ev σ y=some (.int k' n)) (h0:0≤n∧n<32) (hd:Nat.blt d N.n=true) (kk:O P N all rest Q ((d,cW (a >>> UInt32.ofNat n.toNat))::σ) e L):O P N all (⟨some d,.binOp .shr t x y t',ty,pos,af,none⟩::rest) Q σ e L:=bx _ (cD.xT h h1 h0) hd kk
theorem O.DQ {n:Int} (h:ev σ x=some (cW a)) (h1:ev σ y=some (.int k' n)) (h0:0≤n∧n<32) (hd:Nat.blt d N.n=true) (kk:O P N all rest Q ((d,cW (a <<< UInt32.ofNat n.toNat))::σ) e L):O P N all (⟨some d,.binOp .shl t x y t',ty,pos,af,none⟩::rest) Q σ e L:=bx _ (cD.DQ h h1 h0) hd kk
theorem O.Iz (h:ev σ x=some (cW a)) (hd:Nat.blt d N.n=true) (kk:O P N all rest Q ((d,cW (~~~a))::σ) e L):O P N all (⟨some d,.unOp .xor t x,ty,pos,af,none⟩::rest) Q σ e L:=bx _ (cD.Iz h) hd kk
theorem O.neg {m:Int} (h:ev σ x=some (.int k m)) (hd:Nat.blt d N.n=true) (kk:O P N all rest Q ((d,.int k (k.wrap (0 - m)))::σ) e L):O P N all (⟨some d,.unOp .neg t x,ty,pos,af,none⟩::rest) Q σ e L:=bx _ (cD.neg h) hd kk
theorem O.r5 {s:TypeId} [i:iu P s .u32] [j:iu P t .u8] (h:ev σ x=some (cW a)) (hd:Nat.blt d N.n=true) (kk:O P N all rest Q ((d,u8 a.toUInt8)::σ) e L):O P N all (⟨some d,.convert s t x,ty,pos,af,none⟩::rest) Q σ e L:=bx _ (cD.r5 h) hd kk
theorem O.r6 {s:TypeId} [i:iu P s .u8] [j:iu P t .u32] {c:UInt8} (h:ev σ x=some (u8 c)) (hd:Nat.blt d N.n=true) (kk:O P N all rest Q ((d,cW c.toUInt32)::σ) e L):O P N all (⟨some d,.convert s t x,ty,pos,af,none⟩::rest) Q σ e L:=bx _ (cD.r6 h) hd kk
theorem O.dX {len el g o i:Nat} [s:rZ P t len el 1] (h:ev σ x=some (.pointer (some ⟨g,o,none⟩))) (h1:ev σ y=some (.int k (i:Int))) (h0:i<len) (hd:Nat.blt d N.n=true) (kk:O P N all rest Q ((d,.pointer (some ⟨g,o+i,none⟩))::σ) e L):O P N all (⟨some d,.indexAddr t x y,ty,pos,af,none⟩::rest) Q σ e L:=bx _ (cD.dX h h1 h0) hd kk
theorem O.dG {len el n g o:Nat} {i:Int} [s:rZ P t len el n] (h:ev σ x=some (.pointer (some ⟨g,o,none⟩))) (h1:ev σ y=some (.int k i)) (h0:0≤i∧i<len) (hd:Nat.blt d N.n=true) (kk:O P N all rest Q ((d,.pointer (some ⟨g,o+i.toNat*n,none⟩))::σ) e L):O P N all (⟨some d,.indexAddr t x y,ty,pos,af,none⟩::rest) Q σ e L:=bx _ (cD.dG h h1 h0) hd kk
theorem O.Gs {len el i:Nat} {cs:List Value} {v:Value} [s:rZ P t len el 1] [q:dL P el] (h:ev σ x=some (.agg cs.toArray)) (h1:ev σ y=some (.int k (i:Int))) (h0:i<len) (hv:cs[i]?=some v) (hd:Nat.blt d N.n=true) (kk:O P N all rest Q ((d,v)::σ) e L):O P N all (⟨some d,.index t x y,ty,pos,af,none⟩::rest) Q σ e L:=bx _ (cD.Gs h h1 h0 hv) hd kk
theorem O.mF {len el n:Nat} {z:Value} {parts:List (Nat × Operand)} {vs:List (Nat × Value)} {cs:List Value} [s:rZ P t len el n] [j:fv P t z] (h:uU σ parts=some vs) (hlen:vs.length=len) (hz:z.cells.size=len*n) (hc:gS n 0 vs cs) (hd:Nat.blt d N.n=true) (kk:O P N all rest Q ((d,.agg cs.toArray)::σ) e L):O P N all (⟨some d,.build t parts.toArray,ty,pos,af,none⟩::rest) Q σ e L:=bx _ (cD.mF h hlen hz hc) hd kk
theorem A.cB {ops:Array Oper} {T:List Nat} {R0:List cJ} {n:Nat} {l:Array Bool} {p:Prop} (f:∀ h,dN L h→p) (h:p→A P N ops T R0 n l Q σ e L):A P N ops T R0 n l Q σ e L:=fun a w ha hs=>h (f _ hs.2.2.2) a w ha hs
theorem Do.U2 {el nn b c:Nat} {z:Value} {k1 k2:IntKind} [i:je P t el nn] [j:ru P el z nn b] (hx:ev σ x=some (.int k1 0)) (hy:ev σ y=some (.int k2 (c:Int))) (hd:Nat.blt d N.n=true) (Ir:c≤maxLen) (hb:c*b≤140737488355328)
 (kk:∀ g,K ((d,.slice (some ⟨g,0,none⟩) 0 c)::σ) (dE el nn (.slice (some ⟨g,0,none⟩) 0 c) 0 []::L)) :
 Do P N ⟨some d,.makeSlice t x y,ty,pos,af,gd⟩ K σ e L:=fun a w ha hs K' Q' hK=>by
 obtain ⟨ti,t1,t2,t3,t4⟩:=j.parts;subst t3 t4
 have tc:(ti.bytes:Int)*(c:Int)≤281474976710656:=by
  have h:((ti.bytes*c:Nat):Int)≤281474976710656:=by rw [Nat.mul_comm];omega
  rwa [Int.natCast_mul] at h
 have hr:=run_make (P:=P) w t el ti z i.lS t1 t2 k1 k2 0 c (Int.le_refl _) (by omega) tc (by simp only [maxLen] at Ir;omega);simp only [Int.toNat_natCast,Int.toNat_zero] at hr
 refine eZ (w':=w.alloc (.cells (madeCells z.cells (c*ti.size)) el)) (v:=.slice (some ⟨w.heap.size,0,none⟩) 0 c) (by simp [execOp,ha.ev hx,ha.ev hy,hr]) (hK _ _ _ _ (kk _) (ha.put hd _) ?_);have F7:=(hs.alloc (.cells (madeCells z.cells (c*ti.size)) el)).cL (ta _ _ _ _);have gy:=hH (E:=el) (n:=ti.size) (g:=w.heap.size) (k:=0) (cap:=c) (cur:=(madeCells z.cells (c*ti.size)).toList) (R:=L) (aH _) Ir (by simp [size_madeCells]);rw [Nat.zero_mul,List.take_zero] at gy
 exact F7.cL gy
end
end Go.Bs
namespace Go.Bs
section
variable {P:Program} {N:Fr} {Q:fO} {σ:Env} {e:World} {L:List cJ} {all:Array Oper} {rest:List Oper}
variable {d:Nat} {op:Op} {ty:TypeId} {pos:String} {af:Array Edge} {gd:Option (Nat × Bool)} {K:Env→List cJ→Prop} {x y z:Operand} {v:Value} {t t':TypeId} {k k':IntKind} {m n:Int} {a b:UInt32}
theorem Za  (kk:O P N all rest Q ((d,v)::σ) e L) (h:ev σ x=some v:=by exact rfl) (hd:Nat.blt d N.n=true:=by exact rfl):O P N all (⟨some d,.move x,ty,pos,af,none⟩::rest) Q σ e L:=O.move h hd kk
theorem Zb  (kk:O P N all rest Q ((d,v)::σ) e L) (h:ev σ x=some v:=by exact rfl) (hd:Nat.blt d N.n=true:=by exact rfl):O P N all (⟨some d,.assign x,ty,pos,af,none⟩::rest) Q σ e L:=O.assign h hd kk
theorem Zc {x y:Code} (h:W P N x (km (Next P N y Q) Q) σ e L) :W P N (.seq x y) Q σ e L:=W.seq h
theorem Zd {id:Nat} {l:List Oper} (h:O P N l.toArray l Q σ e L) :W P N (.region id l.toArray false) Q σ e L:=W.region h
theorem Ze  (h:Fin Q .normal σ e L) :O P N all [] Q σ e L:=O.nil h
theorem Zf {y:Code} {Q1:fO} (h:W P N y Q1 σ e L) :Fin (km (Next P N y Q1) Q) .normal σ e L:=Fin.next h
theorem Zg {p:Addr} (kk:O P N all rest Q ((d,.pointer (some p))::σ) e L) (h:ev σ x=some (.pointer (some p)):=by exact rfl) (hd:Nat.blt d N.n=true:=by exact rfl):O P N all (⟨some d,.nilCheck x,ty,pos,af,none⟩::rest) Q σ e L:=O.nilCheck h hd kk
theorem Zh {s f off g o:Nat} [i:cM P s f off] (kk:O P N all rest Q ((d,.pointer (some ⟨g,o+off,none⟩))::σ) e L) (h:ev σ x=some (.pointer (some ⟨g,o,none⟩)):=by exact rfl) (hd:Nat.blt d N.n=true:=by exact rfl):O P N all (⟨some d,.fieldAddr s x f,ty,pos,af,none⟩::rest) Q σ e L:=O.fieldAddr h hd kk
theorem Zi {p:Addr} [i:dL P t] (kk:O P N all rest Q ((d,v)::σ) e L) (h:ev σ x=some (.pointer (some p)):=by exact rfl) (r:Rd L p v:=by (repeat first|exact bP .zero rfl|assumption|apply Rd.tail);done) (hd:Nat.blt d N.n=true:=by exact rfl):O P N all (⟨some d,.load t x,ty,pos,af,none⟩::rest) Q σ e L:=bV h r hd kk
theorem Zj {n g o:Nat} {cs:List Value} [i:jf P t n] (kk:O P N all rest Q ((d,.agg cs.toArray)::σ) e L) (h:ev σ x=some (.pointer (some ⟨g,o,none⟩)):=by exact rfl) (r:dZ L g o cs:=by (repeat first|exact bU .zero|assumption|apply dZ.tail);done) (hl:cs.length=n:=by exact rfl) (hd:Nat.blt d N.n=true:=by exact rfl):O P N all (⟨some d,.load t x,ty,pos,af,none⟩::rest) Q σ e L:=O.dy h r hl hd kk
theorem Zk {el n l c:Nat} {ad:Option Addr} {ats:List TypeId} [i:je P t el n] (kk:O P N all rest Q ((d,.int .i64 (l:Int))::σ) e L) (h:ev σ x=some (.slice ad l c):=by exact rfl) (hd:Nat.blt d N.n=true:=by exact rfl):O P N all (⟨some d,.call { callee:=.builtin .len,args:=#[x],argTypes:=(t::ats).toArray },ty,pos,af,none⟩::rest) Q σ e L:=O.len h hd kk
theorem Zl  (kk:O P N all rest Q ((d,v)::σ) e L) (h:ev σ x=some (.bool true):=by exact rfl) (h1:ev σ y=some v:=by exact rfl) (hd:Nat.blt d N.n=true:=by exact rfl):O P N all (⟨some d,.pick x y z,ty,pos,af,none⟩::rest) Q σ e L:=O.eR h h1 hd kk
theorem Zm  (kk:O P N all rest Q ((d,v)::σ) e L) (h:ev σ x=some (.bool false):=by exact rfl) (h1:ev σ z=some v:=by exact rfl) (hd:Nat.blt d N.n=true:=by exact rfl):O P N all (⟨some d,.pick x y z,ty,pos,af,none⟩::rest) Q σ e L:=O.eD h h1 hd kk
theorem Zn {dst:Option Tmp} {j:Nat} {want:Bool} (k:O P N all (⟨dst,op,ty,pos,af,none⟩::rest) Q σ e L) (h:p0 σ all j want=some true:=by exact rfl):O P N all (⟨dst,op,ty,pos,af,some (j,want)⟩::rest) Q σ e L:=O.want h k
theorem Zo {j:Nat} {want:Bool} (k:O P N all rest Q ((d,undef)::σ) e L) (h:p0 σ all j want=some false:=by exact rfl) (hd:Nat.blt d N.n=true:=by exact rfl):O P N all (⟨some d,op,ty,pos,af,some (j,want)⟩::rest) Q σ e L:=O.Rk h hd k
theorem Zq {el:TypeId} {p:Addr} [i:rr P t el] (kk:O P N all rest Q ((d,.bool false)::σ) e L) (h:ev σ x=some (.pointer (some p)):=by exact rfl) (h1:ev σ y=some (.pointer none):=by exact rfl) (hd:Nat.blt d N.n=true:=by exact rfl):O P N all (⟨some d,.binOp .eql t x y t',ty,pos,af,none⟩::rest) Q σ e L:=O.OD h h1 hd kk
theorem Zs {el n l c:Nat} {p:Addr} [i:je P t el n] (kk:O P N all rest Q ((d,.bool false)::σ) e L) (h:ev σ x=some (.slice (some p) l c):=by exact rfl) (h1:ev σ y=some (.slice none 0 0):=by exact rfl) (hd:Nat.blt d N.n=true:=by exact rfl):O P N all (⟨some d,.binOp .eql t x y t',ty,pos,af,none⟩::rest) Q σ e L:=O.Rv h h1 hd kk
theorem Zt {el n l c:Nat} [i:je P t el n] (kk:O P N all rest Q ((d,.bool true)::σ) e L) (h:ev σ x=some (.slice none l c):=by exact rfl) (h1:ev σ y=some (.slice none 0 0):=by exact rfl) (hd:Nat.blt d N.n=true:=by exact rfl):O P N all (⟨some d,.binOp .eql t x y t',ty,pos,af,none⟩::rest) Q σ e L:=O.Rw h h1 hd kk
theorem Zu {el:TypeId} {p:Addr} [i:rr P t el] (kk:O P N all rest Q ((d,.bool true)::σ) e L) (h:ev σ x=some (.pointer (some p)):=by exact rfl) (h1:ev σ y=some (.pointer none):=by exact rfl) (hd:Nat.blt d N.n=true:=by exact rfl):O P N all (⟨some d,.binOp .neq t x y t',ty,pos,af,none⟩::rest) Q σ e L:=O.OE h h1 hd kk
theorem Zy  (kk:O P N all rest Q ((d,.bool false)::σ) e L) (h:ev σ x=some (.bool true):=by exact rfl) (hd:Nat.blt d N.n=true:=by exact rfl):O P N all (⟨some d,.unOp .not t x,ty,pos,af,none⟩::rest) Q σ e L:=O.jZ h hd kk
theorem Zz  (kk:O P N all rest Q ((d,.bool true)::σ) e L) (h:ev σ x=some (.bool false):=by exact rfl) (hd:Nat.blt d N.n=true:=by exact rfl):O P N all (⟨some d,.unOp .not t x,ty,pos,af,none⟩::rest) Q σ e L:=O.p8 h hd kk
theorem ZA  (kk:O P N all rest Q ((d,.bool true)::σ) e L) (h:ev σ x=some (.int k m):=by exact rfl) (h1:ev σ y=some (.int k n):=by exact rfl) (hp:m<n:=by omega) (hd:Nat.blt d N.n=true:=by exact rfl):O P N all (⟨some d,.binOp .lss t x y t',ty,pos,af,none⟩::rest) Q σ e L:=O.UM h h1 hp hd kk
theorem ZB  (kk:O P N all rest Q ((d,.bool false)::σ) e L) (h:ev σ x=some (.int k m):=by exact rfl) (h1:ev σ y=some (.int k n):=by exact rfl) (hp:¬ (m<n):=by omega) (hd:Nat.blt d N.n=true:=by exact rfl):O P N all (⟨some d,.binOp .lss t x y t',ty,pos,af,none⟩::rest) Q σ e L:=O.UN h h1 hp hd kk
theorem ZC  (k1:m<n→O P N all rest Q ((d,.bool true)::σ) e L) (k2:¬ (m<n)→O P N all rest Q ((d,.bool false)::σ) e L) (h:ev σ x=some (.int k m):=by exact rfl) (h1:ev σ y=some (.int k n):=by exact rfl) (hd:Nat.blt d N.n=true:=by exact rfl):O P N all (⟨some d,.binOp .lss t x y t',ty,pos,af,none⟩::rest) Q σ e L:=O.UO h h1 hd k1 k2
theorem ZD  (kk:O P N all rest Q ((d,.bool true)::σ) e L) (h:ev σ x=some (.int k m):=by exact rfl) (h1:ev σ y=some (.int k n):=by exact rfl) (hp:m≤n:=by omega) (hd:Nat.blt d N.n=true:=by exact rfl):O P N all (⟨some d,.binOp .leq t x y t',ty,pos,af,none⟩::rest) Q σ e L:=O.UP h h1 hp hd kk
theorem ZE  (kk:O P N all rest Q ((d,.bool false)::σ) e L) (h:ev σ x=some (.int k m):=by exact rfl) (h1:ev σ y=some (.int k n):=by exact rfl) (hp:¬ (m≤n):=by omega) (hd:Nat.blt d N.n=true:=by exact rfl):O P N all (⟨some d,.binOp .leq t x y t',ty,pos,af,none⟩::rest) Q σ e L:=O.UQ h h1 hp hd kk
theorem ZG  (kk:O P N all rest Q ((d,.bool true)::σ) e L) (h:ev σ x=some (.int k m):=by exact rfl) (h1:ev σ y=some (.int k n):=by exact rfl) (hp:n<m:=by omega) (hd:Nat.blt d N.n=true:=by exact rfl):O P N all (⟨some d,.binOp .gtr t x y t',ty,pos,af,none⟩::rest) Q σ e L:=O.UR h h1 hp hd kk
theorem ZH  (kk:O P N all rest Q ((d,.bool false)::σ) e L) (h:ev σ x=some (.int k m):=by exact rfl) (h1:ev σ y=some (.int k n):=by exact rfl) (hp:¬ (n<m):=by omega) (hd:Nat.blt d N.n=true:=by exact rfl):O P N all (⟨some d,.binOp .gtr t x y t',ty,pos,af,none⟩::rest) Q σ e L:=O.US h h1 hp hd kk
theorem ZI  (k1:n<m→O P N all rest Q ((d,.bool true)::σ) e L) (k2:¬ (n<m)→O P N all rest Q ((d,.bool false)::σ) e L) (h:ev σ x=some (.int k m):=by exact rfl) (h1:ev σ y=some (.int k n):=by exact rfl) (hd:Nat.blt d N.n=true:=by exact rfl):O P N all (⟨some d,.binOp .gtr t x y t',ty,pos,af,none⟩::rest) Q σ e L:=O.UT h h1 hd k1 k2
theorem ZJ  (kk:O P N all rest Q ((d,.bool true)::σ) e L) (h:ev σ x=some (.int k m):=by exact rfl) (h1:ev σ y=some (.int k n):=by exact rfl) (hp:n≤m:=by omega) (hd:Nat.blt d N.n=true:=by exact rfl):O P N all (⟨some d,.binOp .geq t x y t',ty,pos,af,none⟩::rest) Q σ e L:=O.UU h h1 hp hd kk
theorem ZK  (kk:O P N all rest Q ((d,.bool false)::σ) e L) (h:ev σ x=some (.int k m):=by exact rfl) (h1:ev σ y=some (.int k n):=by exact rfl) (hp:¬ (n≤m):=by omega) (hd:Nat.blt d N.n=true:=by exact rfl):O P N all (⟨some d,.binOp .geq t x y t',ty,pos,af,none⟩::rest) Q σ e L:=O.UW h h1 hp hd kk
theorem ZM  (kk:O P N all rest Q ((d,.bool true)::σ) e L) (h:ev σ x=some (.int k m):=by exact rfl) (h1:ev σ y=some (.int k n):=by exact rfl) (hp:m=n:=by omega) (hd:Nat.blt d N.n=true:=by exact rfl):O P N all (⟨some d,.binOp .eql t x y t',ty,pos,af,none⟩::rest) Q σ e L:=O.UX h h1 hp hd kk
theorem ZN  (kk:O P N all rest Q ((d,.bool false)::σ) e L) (h:ev σ x=some (.int k m):=by exact rfl) (h1:ev σ y=some (.int k n):=by exact rfl) (hp:¬ (m=n):=by omega) (hd:Nat.blt d N.n=true:=by exact rfl):O P N all (⟨some d,.binOp .eql t x y t',ty,pos,af,none⟩::rest) Q σ e L:=O.UY h h1 hp hd kk
theorem ZO  (k1:m=n→O P N all rest Q ((d,.bool true)::σ) e L) (k2:¬ (m=n)→O P N all rest Q ((d,.bool false)::σ) e L) (h:ev σ x=some (.int k m):=by exact rfl) (h1:ev σ y=some (.int k n):=by exact rfl) (hd:Nat.blt d N.n=true:=by exact rfl):O P N all (⟨some d,.binOp .eql t x y t',ty,pos,af,none⟩::rest) Q σ e L:=O.UZ h h1 hd k1 k2
theorem ZP  (kk:O P N all rest Q ((d,.bool true)::σ) e L) (h:ev σ x=some (.int k m):=by exact rfl) (h1:ev σ y=some (.int k n):=by exact rfl) (hp:m≠n:=by omega) (hd:Nat.blt d N.n=true:=by exact rfl):O P N all (⟨some d,.binOp .neq t x y t',ty,pos,af,none⟩::rest) Q σ e L:=O.U0 h h1 hp hd kk
theorem ZQ  (kk:O P N all rest Q ((d,.bool false)::σ) e L) (h:ev σ x=some (.int k m):=by exact rfl) (h1:ev σ y=some (.int k n):=by exact rfl) (hp:¬ (m≠n):=by omega) (hd:Nat.blt d N.n=true:=by exact rfl):O P N all (⟨some d,.binOp .neq t x y t',ty,pos,af,none⟩::rest) Q σ e L:=O.U1 h h1 hp hd kk
theorem ZS  (kk:O P N all rest Q ((d,.int .i64 (m+n))::σ) e L) (h:ev σ x=some (.int .i64 m):=by exact rfl) (h1:ev σ y=some (.int .i64 n):=by exact rfl) (hb:-9223372036854775808≤m+n∧m+n≤9223372036854775807:=by omega) (hd:Nat.blt d N.n=true:=by exact rfl):O P N all (⟨some d,.binOp .add t x y t',ty,pos,af,none⟩::rest) Q σ e L:=O.kQ h h1 hb hd kk
theorem ZU  (kk:O P N all rest Q ((d,.int .i64 (m - n))::σ) e L) (h:ev σ x=some (.int .i64 m):=by exact rfl) (h1:ev σ y=some (.int .i64 n):=by exact rfl) (hb:-9223372036854775808≤m - n∧m - n≤9223372036854775807:=by omega) (hd:Nat.blt d N.n=true:=by exact rfl):O P N all (⟨some d,.binOp .sub t x y t',ty,pos,af,none⟩::rest) Q σ e L:=O.jz h h1 hb hd kk
theorem ZV  (kk:O P N all rest Q ((d,.int k (k.wrap (m - n)))::σ) e L) (h:ev σ x=some (.int k m):=by exact rfl) (h1:ev σ y=some (.int k n):=by exact rfl) (hd:Nat.blt d N.n=true:=by exact rfl):O P N all (⟨some d,.binOp .sub t x y t',ty,pos,af,none⟩::rest) Q σ e L:=O.sub h h1 hd kk
theorem ZW  (kk:O P N all rest Q ((d,.int .i64 (m*n))::σ) e L) (h:ev σ x=some (.int .i64 m):=by exact rfl) (h1:ev σ y=some (.int .i64 n):=by exact rfl) (hb:-9223372036854775808≤m*n∧m*n≤9223372036854775807:=by omega) (hd:Nat.blt d N.n=true:=by exact rfl):O P N all (⟨some d,.binOp .mul t x y t',ty,pos,af,none⟩::rest) Q σ e L:=O.wc h h1 hb hd kk
theorem ZX  (kk:O P N all rest Q ((d,.int k (k.wrap (m*n)))::σ) e L) (h:ev σ x=some (.int k m):=by exact rfl) (h1:ev σ y=some (.int k n):=by exact rfl) (hd:Nat.blt d N.n=true:=by exact rfl):O P N all (⟨some d,.binOp .mul t x y t',ty,pos,af,none⟩::rest) Q σ e L:=O.mul h h1 hd kk
theorem ZY {s:TypeId} [i:iu P s k] [j:iu P t k'] (kk:O P N all rest Q ((d,.int k' m)::σ) e L) (h:ev σ x=some (.int k m):=by exact rfl) (hw:k'.wrap m=m:=by (first|exact wrap_i64 (by omega) (by omega)|exact wrap_u32 (by omega) (by omega)|exact wrap_u8 (by omega) (by omega))) (hd:Nat.blt d N.n=true:=by exact rfl):O P N all (⟨some d,.convert s t x,ty,pos,af,none⟩::rest) Q σ e L:=O.xS h hw hd kk
theorem ZZ {s:TypeId} [i:iu P s k] [j:iu P t k'] (kk:O P N all rest Q ((d,.int k' (k'.wrap m))::σ) e L) (h:ev σ x=some (.int k m):=by exact rfl) (hd:Nat.blt d N.n=true:=by exact rfl):O P N all (⟨some d,.convert s t x,ty,pos,af,none⟩::rest) Q σ e L:=O.jP h hd kk
theorem Z0  (kk:O P N all rest Q ((d,.int k (k.wrap (m*2 ^ (min n.toNat k.bits))))::σ) e L) (h:ev σ x=some (.int k m):=by exact rfl) (h1:ev σ y=some (.int k' n):=by exact rfl) (h0:0≤n:=by omega) (hd:Nat.blt d N.n=true:=by exact rfl):O P N all (⟨some d,.binOp .shl t x y t',ty,pos,af,none⟩::rest) Q σ e L:=O.shl h h1 h0 hd kk
theorem Z1  (kk:O P N all rest Q ((d,.int k (m.fdiv (2 ^ (min n.toNat k.bits))))::σ) e L) (h:ev σ x=some (.int k m):=by exact rfl) (h1:ev σ y=some (.int k' n):=by exact rfl) (h0:0≤n:=by omega) (hd:Nat.blt d N.n=true:=by exact rfl):O P N all (⟨some d,.binOp .shr t x y t',ty,pos,af,none⟩::rest) Q σ e L:=O.shr h h1 h0 hd kk
theorem Z2  (kk:O P N all rest Q ((d,.int k (Go.bits .and k m n))::σ) e L) (h:ev σ x=some (.int k m):=by exact rfl) (h1:ev σ y=some (.int k n):=by exact rfl) (hd:Nat.blt d N.n=true:=by exact rfl):O P N all (⟨some d,.binOp .and t x y t',ty,pos,af,none⟩::rest) Q σ e L:=O.and h h1 hd kk
theorem Z3  (kk:O P N all rest Q ((d,.int k (Go.bits .or k m n))::σ) e L) (h:ev σ x=some (.int k m):=by exact rfl) (h1:ev σ y=some (.int k n):=by exact rfl) (hd:Nat.blt d N.n=true:=by exact rfl):O P N all (⟨some d,.binOp .or t x y t',ty,pos,af,none⟩::rest) Q σ e L:=O.or h h1 hd kk
theorem Z6 {T el n:Nat} {l:List UInt8} [i:je P t el n] [j:iu P el .u8] [s:u0 P T] (kk:O P N all rest Q ((d,.string (str l))::σ) e L) (h:ev σ x=some v:=by exact rfl) (r:db L v l:=by (repeat first|exact bb .zero|exact cE.view .zero|assumption|apply db.tail);done) (hd:Nat.blt d N.n=true:=by exact rfl):O P N all (⟨some d,.convert t T x,ty,pos,af,none⟩::rest) Q σ e L:=O.bytes h r hd kk
theorem Z7 {a b:List UInt8} (kk:O P N all rest Q ((d,.bool true)::σ) e L) (h:ev σ x=some (.string (str a)):=by exact rfl) (h1:ev σ y=some (.string (str b)):=by exact rfl) (hp:a=b:=by (first|exact rfl|assumption)) (hd:Nat.blt d N.n=true:=by exact rfl):O P N all (⟨some d,.binOp .eql t x y t',ty,pos,af,none⟩::rest) Q σ e L:=O.LV h h1 hp hd kk
theorem Z8 {a b:List UInt8} (kk:O P N all rest Q ((d,.bool false)::σ) e L) (h:ev σ x=some (.string (str a)):=by exact rfl) (h1:ev σ y=some (.string (str b)):=by exact rfl) (hp:¬ (a=b):=by assumption) (hd:Nat.blt d N.n=true:=by exact rfl):O P N all (⟨some d,.binOp .eql t x y t',ty,pos,af,none⟩::rest) Q σ e L:=O.LW h h1 hp hd kk
theorem Ya {a b:List UInt8} (kk:O P N all rest Q ((d,.bool false)::σ) e L) (h:ev σ x=some (.string (str a)):=by exact rfl) (h1:ev σ y=some (.string (str b)):=by exact rfl) (hp:¬ (a≠b):=by (first|exact fun h=>h rfl|assumption)) (hd:Nat.blt d N.n=true:=by exact rfl):O P N all (⟨some d,.binOp .neq t x y t',ty,pos,af,none⟩::rest) Q σ e L:=O.LY h h1 hp hd kk
theorem Yb {a b:List UInt8} (kk:O P N all rest Q ((d,.bool true)::σ) e L) (h:ev σ x=some (.string (str a)):=by exact rfl) (h1:ev σ y=some (.string (str b)):=by exact rfl) (hp:a≠b:=by assumption) (hd:Nat.blt d N.n=true:=by exact rfl):O P N all (⟨some d,.binOp .neq t x y t',ty,pos,af,none⟩::rest) Q σ e L:=O.LX h h1 hp hd kk
theorem Yd {g off:Nat} {cs cs':List Value} {T:TypeId} {L':List cJ} [i:dL P t] (kk:O P N all rest Q σ e L') (h:ev σ x=some (.pointer (some ⟨g,off,none⟩)):=by exact rfl) (h1:ev σ y=some v:=by exact rfl) (hv:v.oneCell'=true:=by (first|exact rfl|assumption)) (u:wb L (cK g cs T (0,0)) (cK g cs' T (0,0)) L':=by (repeat first|exact wb.zero|apply wb.succ);done) (jL:gx cs off v cs':=by (repeat first|exact gx.zero|apply gx.succ);done):O P N all (⟨none,.store t x y,ty,pos,af,none⟩::rest) Q σ e L:=O.store h h1 hv u jL kk
theorem Ye {nu:Array (Nat × Nat)} {z:Array Value} {cells:List Value} {parts:List (Nat × Operand)} {vs:List (Nat × Value)} [i:eu P t nu z] (kk:O P N all rest Q ((d,.agg cells.toArray)::σ) e L) (h:uU σ parts=some vs:=by exact rfl) (hc:Instr.fill (nu[·]?) z vs=some cells.toArray:=by (simp [Instr.fill,Value.cells];rfl)) (hd:Nat.blt d N.n=true:=by exact rfl):O P N all (⟨some d,.build t parts.toArray,ty,pos,af,none⟩::rest) Q σ e L:=O.build h hc hd kk
theorem Yf {el n g o l c:Nat} {cs:List Value} {T:TypeId} {L':List cJ} [i:je P t el n] [j:iu P el .u8] (kk:O P N all rest Q ((d,.slice (some ⟨g,o,none⟩) l c)::σ) e L') (hx:ev σ x=some (.slice (some ⟨g,o,none⟩) l c):=by exact rfl) (u:wb L (cK g cs T (0,0)) (cK g cs T (cs.length,cs.length+1)) L':=by (repeat first|exact wb.zero|apply wb.succ);done) (hd:Nat.blt d N.n=true:=by exact rfl):O P N all (⟨some d,.convert t t x,ty,pos,af,none⟩::rest) Q σ e L:=O.Gm hx u hd kk
theorem Yg {cs:List Value} (kk:∀ g,O P N all rest Q ((d,.pointer (some ⟨g,0,none⟩))::σ) e (cK g cs t (0,0)::L)) (h:ev σ x=some v:=by exact rfl) (hc:v.cells=cs.toArray:=by exact rfl) (hd:Nat.blt d N.n=true:=by exact rfl):O P N all (⟨some d,.box t x,ty,pos,af,none⟩::rest) Q σ e L:=O.box h hc hd kk
theorem Yh {z:Value} {cs:List Value} [i:fv P t z] (kk:∀ g,O P N all rest Q ((d,.pointer (some ⟨g,0,none⟩))::σ) e (cK g cs t (0,0)::L)) (hc:z.cells=cs.toArray:=by exact rfl) (hd:Nat.blt d N.n=true:=by exact rfl):O P N all (⟨some d,.alloc t,ty,pos,af,none⟩::rest) Q σ e L:=b9 hc hd kk
theorem Yi {el n len b:Nat} {z:Value} {parts:List (Nat × Operand)} {vs:List (Nat × Value)} {cs:List Value} [i:je P t el n] [j:ru P el z n b] (kk:∀ g,O P N all rest Q ((d,.slice (some ⟨g,0,none⟩) len len)::σ) e (cK g cs el (0,0)::L)) (h:uU σ parts=some vs:=by exact rfl) (hn:Nat.ble (len*n) 16777216=true:=by exact rfl) (hlen:vs.length=len:=by exact rfl) (hc:gS n 0 vs cs:=by (repeat first|exact Bs.gS.nil|apply Bs.gS.one rfl rfl|apply Bs.gS.one (Bs.eQ (by assumption)) rfl|(apply Bs.gS.agg;exact rfl));done) (hz:z.cells.size=n:=by exact rfl) (hd:Nat.blt d N.n=true:=by exact rfl):O P N all (⟨some d,.buildSlice t len parts.toArray,ty,pos,af,none⟩::rest) Q σ e L:=bY h hn hlen hc hz hd kk
theorem Ym {s:ByteArray} {ats:List TypeId} [i:u0 P t] (kk:O P N all rest Q ((d,.int .i64 (s.size:Int))::σ) e L) (h:ev σ x=some (.string s):=by exact rfl) (hd:Nat.blt d N.n=true:=by exact rfl):O P N all (⟨some d,.call { callee:=.builtin .len,args:=#[x],argTypes:=(t::ats).toArray },ty,pos,af,none⟩::rest) Q σ e L:=O.Rl h hd kk
theorem Yr {el n l c:Nat} {ad:Option Addr} {i:Int} [s:je P t el n] (kk:O P N all rest Q ((d,.slice ad i.toNat c)::σ) e L) (h:ev σ x=some (.slice ad l c):=by exact rfl) (h1:ev σ y=some (.int k i):=by exact rfl) (h0:0≤i:=by omega) (hl:i≤c:=by omega) (hd:Nat.blt d N.n=true:=by exact rfl):O P N all (⟨some d,.slice t x none (some y) none,ty,pos,af,none⟩::rest) Q σ e L:=O.iV h h1 h0 hl hd kk
theorem Ys {el n l c:Nat} {ad:Option Addr} {i:Int} [s:je P t el n] (kk:O P N all rest Q ((d,.slice (cutAt ad c i.toNat n) (l - i.toNat) (c - i.toNat))::σ) e L) (h:ev σ x=some (.slice ad l c):=by exact rfl) (h1:ev σ y=some (.int k i):=by exact rfl) (h0:0≤i:=by omega) (hl:i≤l:=by omega) (hd:Nat.blt d N.n=true:=by exact rfl):O P N all (⟨some d,.slice t x (some y) none none,ty,pos,af,none⟩::rest) Q σ e L:=O.lm h h1 h0 hl hd kk
theorem Yt {el n l c:Nat} {ad:Option Addr} {i j:Int} [s:je P t el n] (kk:O P N all rest Q ((d,.slice (cutAt ad c i.toNat n) (j.toNat - i.toNat) (c - i.toNat))::σ) e L) (h:ev σ x=some (.slice ad l c):=by exact rfl) (h1:ev σ y=some (.int k i):=by exact rfl) (h2:ev σ z=some (.int k' j):=by exact rfl) (h0:0≤i:=by omega) (hl:i≤j:=by omega) (hj:j≤c:=by omega) (hd:Nat.blt d N.n=true:=by exact rfl):O P N all (⟨some d,.slice t x (some y) (some z) none,ty,pos,af,none⟩::rest) Q σ e L:=O.u1 h h1 h2 h0 hl hj hd kk
theorem Yu {ats:Array TypeId} (kk:O P N all rest Q ((d,.int k (if n > m then n else m))::σ) e L) (h:ev σ x=some (.int k m):=by exact rfl) (h1:ev σ y=some (.int k' n):=by exact rfl) (hd:Nat.blt d N.n=true:=by exact rfl):O P N all (⟨some d,.call { callee:=.builtin .max,args:=#[x,y],argTypes:=ats },ty,pos,af,none⟩::rest) Q σ e L:=O.max h h1 hd kk
theorem Yw {el l c g o i:Nat} [s:je P t el 1] (kk:O P N all rest Q ((d,.pointer (some ⟨g,o+i,none⟩))::σ) e L) (h:ev σ x=some (.slice (some ⟨g,o,none⟩) l c):=by exact rfl) (h1:ev σ y=some (.int k (i:Int)):=by exact rfl) (hl:i<l:=by omega) (hd:Nat.blt d N.n=true:=by exact rfl):O P N all (⟨some d,.indexAddr t x y,ty,pos,af,none⟩::rest) Q σ e L:=O.ix h h1 hl hd kk
theorem Yx {el n l c g o i:Nat} [s:je P t el n] (kk:O P N all rest Q ((d,.pointer (some ⟨g,o+i*n,none⟩))::σ) e L) (h:ev σ x=some (.slice (some ⟨g,o,none⟩) l c):=by exact rfl) (h1:ev σ y=some (.int k (i:Int)):=by exact rfl) (hl:i<l:=by omega) (hd:Nat.blt d N.n=true:=by exact rfl):O P N all (⟨some d,.indexAddr t x y,ty,pos,af,none⟩::rest) Q σ e L:=O.dD h h1 hl hd kk
theorem Yy {el n l c g o:Nat} {i:Int} [s:je P t el n] (kk:O P N all rest Q ((d,.pointer (some ⟨g,o+i.toNat*n,none⟩))::σ) e L) (h:ev σ x=some (.slice (some ⟨g,o,none⟩) l c):=by exact rfl) (h1:ev σ y=some (.int k i):=by exact rfl) (h0:0≤i:=by omega) (hl:i<l:=by omega) (hd:Nat.blt d N.n=true:=by exact rfl):O P N all (⟨some d,.indexAddr t x y,ty,pos,af,none⟩::rest) Q σ e L:=O.indexAddr h h1 h0 hl hd kk
theorem Yz {c:Operand} {x y:Code} (ht:W P N x Q σ e L) (hc:ev σ c=some (.bool true):=by exact rfl):W P N (.cond c x y) Q σ e L:=W.Ri hc ht
theorem YA {c:Operand} {x y:Code} (hf:W P N y Q σ e L) (hc:ev σ c=some (.bool false):=by exact rfl):W P N (.cond c x y) Q σ e L:=W.Rj hc hf
theorem YB {id:Nat} {c:Code} (h:W P N c (jS id Q) σ e L) :W P N (.block id c) Q σ e L:=W.block h
theorem YC  (h:Fin Q .normal σ e L) :W P N .skip Q σ e L:=W.skip h
theorem YD {id:Nat} (h:Fin Q (.exit id) σ e L) :W P N (.exit id) Q σ e L:=W.exit h
theorem YE  (h:Fin Q .ret σ e L) :W P N .ret Q σ e L:=W.ret h
theorem YF {K:Env→World→Prop} (h:Fin Q .ret σ e L) :Fin (km K Q) .ret σ e L:=Fin.LO h
theorem YG {K:Env→World→Prop} {i:Nat} (h:Fin Q (.exit i) σ e L) :Fin (km K Q) (.exit i) σ e L:=Fin.Jz h
theorem YH {id:Nat} (h:Fin Q .normal σ e L) :Fin (jS id Q) .normal σ e L:=Fin.sY h
theorem YI {id:Nat} (h:Fin Q .ret σ e L) :Fin (jS id Q) .ret σ e L:=Fin.JA h
theorem YJ {id:Nat} (h:Fin Q .normal σ e L) :Fin (jS id Q) (.exit id) σ e L:=Fin.JB h
theorem YK {id i:Nat} (h:Fin Q (.exit i) σ e L) (hi:Nat.beq i id=false:=by exact rfl):Fin (jS id Q) (.exit i) σ e L:=Fin.Gl hi h
theorem YL  (kk:O P N all rest Q ((d,.int k (m.tmod n))::σ) e L) (h:ev σ x=some (.int k m):=by exact rfl) (h1:ev σ y=some (.int k n):=by exact rfl) (h0:n≠0:=by omega) (hd:Nat.blt d N.n=true:=by exact rfl):O P N all (⟨some d,.binOp .rem t x y t',ty,pos,af,none⟩::rest) Q σ e L:=O.rem h h1 h0 hd kk
theorem YM  (kk:O P N all rest Q ((d,.int k (k.wrap (m.tdiv n)))::σ) e L) (h:ev σ x=some (.int k m):=by exact rfl) (h1:ev σ y=some (.int k n):=by exact rfl) (h0:n≠0:=by omega) (hd:Nat.blt d N.n=true:=by exact rfl):O P N all (⟨some d,.binOp .quo t x y t',ty,pos,af,none⟩::rest) Q σ e L:=O.quo h h1 h0 hd kk
theorem YN {vs:List Value} {i:Nat} (kk:O P N all rest Q ((d,v)::σ) e L) (h:ev σ x=some (.tuple vs.toArray):=by exact rfl) (hv:nth vs i=some v:=by exact rfl) (hd:Nat.blt d N.n=true:=by exact rfl):O P N all (⟨some d,.extract x i,ty,pos,af,none⟩::rest) Q σ e L:=O.extract h hv hd kk
theorem YP {f:FuncId} {xs ys:List Operand} {us vs:List Value} (kk:O P N all rest Q ((d,.func (.func f) us.toArray vs.toArray)::σ) e L) (h:pZ σ xs=some us:=by exact rfl) (h1:pZ σ ys=some vs:=by exact rfl) (hd:Nat.blt d N.n=true:=by exact rfl):O P N all (⟨some d,.makeFunc (.func f) xs.toArray ys.toArray,ty,pos,af,none⟩::rest) Q σ e L:=O.makeFunc h h1 hd kk
theorem YQ {g c kk nn off:Nat} {E:TypeId} {xs:List Value} {R:List cJ} [i:dL P t] (k:O P N all rest Q σ e (dE E nn (.slice (some ⟨g,0,none⟩) kk c) kk (xs.set off v)::R)) (h:ev σ x=some (.pointer (some ⟨g,off,none⟩)):=by exact rfl) (h1:ev σ y=some v:=by exact rfl) (hv:v.oneCell'=true:=by (first|exact rfl|assumption)) (p:cR L (dE E nn (.slice (some ⟨g,0,none⟩) kk c) kk xs) R:=by (repeat first|exact cR.zero|apply cR.succ);done) (ho:off<kk*nn:=by omega):O P N all (⟨none,.store t x y,ty,pos,af,none⟩::rest) Q σ e L:=O.p9 h h1 hv p ho k
theorem YR {nn g off:Nat} {vs cs cs':List Value} {T:TypeId} {L':List cJ} [i:jf P t nn] (kk:O P N all rest Q σ e L') (h:ev σ x=some (.pointer (some ⟨g,off,none⟩)):=by exact rfl) (h1:ev σ y=some (.agg vs.toArray):=by exact rfl) (hn:vs.length=nn:=by exact rfl) (hv:∀ v∈vs,v.oneCell'=true:=by (repeat first|exact Ix|(apply DO;first|exact rfl|assumption));done) (u:wb L (cK g cs T (0,0)) (cK g cs' T (0,0)) L':=by (repeat first|exact wb.zero|apply wb.succ);done) (jL:iw cs off vs cs':=by (repeat first|exact iw.nil|apply iw.cons|exact gx.zero|apply gx.succ);done):O P N all (⟨none,.store t x y,ty,pos,af,none⟩::rest) Q σ e L:=O.ek h h1 hn hv u jL kk
theorem YS {el nn b c:Nat} {z z0:Value} [i:je P t el nn] [j:ru P el z 1 b] (kk:∀ g,O P N all rest Q ((d,.slice (some ⟨g,0,none⟩) c c)::σ) e (dE el 1 (.slice (some ⟨g,0,none⟩) c c) c (List.replicate c z0)::L)) (hx:ev σ x=some (.int k (c:Int)):=by exact rfl) (hy:ev σ y=some (.int k' (c:Int)):=by exact rfl) (hz:z.cells=#[z0]:=by exact rfl) (hb:c≤4611686018427387904∧c*b≤140737488355328:=by omega) (hd:Nat.blt d N.n=true:=by exact rfl):O P N all (⟨some d,.makeSlice t x y,ty,pos,af,none⟩::rest) Q σ e L:=O.makeSlice hx hy hz hb hd kk
theorem YT  (kk:O P N all rest Q ((d,cW (a+b))::σ) e L) (h:ev σ x=some (cW a):=by exact rfl) (h1:ev σ y=some (cW b):=by exact rfl) (hd:Nat.blt d N.n=true:=by exact rfl):O P N all (⟨some d,.binOp .add t x y t',ty,pos,af,none⟩::rest) Q σ e L:=O.nQ h h1 hd kk
theorem YU  (kk:O P N all rest Q ((d,cW (a &&& b))::σ) e L) (h:ev σ x=some (cW a):=by exact rfl) (h1:ev σ y=some (cW b):=by exact rfl) (hd:Nat.blt d N.n=true:=by exact rfl):O P N all (⟨some d,.binOp .and t x y t',ty,pos,af,none⟩::rest) Q σ e L:=O.DP h h1 hd kk
theorem YV  (kk:O P N all rest Q ((d,cW (a ||| b))::σ) e L) (h:ev σ x=some (cW a):=by exact rfl) (h1:ev σ y=some (cW b):=by exact rfl) (hd:Nat.blt d N.n=true:=by exact rfl):O P N all (⟨some d,.binOp .or t x y t',ty,pos,af,none⟩::rest) Q σ e L:=O.TZ h h1 hd kk
theorem YW  (kk:O P N all rest Q ((d,cW (a ^^^ b))::σ) e L) (h:ev σ x=some (cW a):=by exact rfl) (h1:ev σ y=some (cW b):=by exact rfl) (hd:Nat.blt d N.n=true:=by exact rfl):O P N all (⟨some d,.binOp .xor t x y t',ty,pos,af,none⟩::rest) Q σ e L:=O.pO h h1 hd kk
theorem YX {n:Int} (kk:O P N all rest Q ((d,cW (a <<< UInt32.ofNat n.toNat))::σ) e L) (h:ev σ x=some (cW a):=by exact rfl) (h1:ev σ y=some (.int k' n):=by exact rfl) (h0:0≤n∧n<32:=by omega) (hd:Nat.blt d N.n=true:=by exact rfl):O P N all (⟨some d,.binOp .shl t x y t',ty,pos,af,none⟩::rest) Q σ e L:=O.DQ h h1 h0 hd kk
theorem YY {n:Int} (kk:O P N all rest Q ((d,cW (a >>> UInt32.ofNat n.toNat))::σ) e L) (h:ev σ x=some (cW a):=by exact rfl) (h1:ev σ y=some (.int k' n):=by exact rfl) (h0:0≤n∧n<32:=by omega) (hd:Nat.blt d N.n=true:=by exact rfl):O P N all (⟨some d,.binOp .shr t x y t',ty,pos,af,none⟩::rest) Q σ e L:=O.xT h h1 h0 hd kk
theorem YZ  (kk:O P N all rest Q ((d,cW (~~~a))::σ) e L) (h:ev σ x=some (cW a):=by exact rfl) (hd:Nat.blt d N.n=true:=by exact rfl):O P N all (⟨some d,.unOp .xor t x,ty,pos,af,none⟩::rest) Q σ e L:=O.Iz h hd kk
theorem Y0 {s:TypeId} [i:iu P s .u32] [j:iu P t .u8] (kk:O P N all rest Q ((d,u8 a.toUInt8)::σ) e L) (h:ev σ x=some (cW a):=by exact rfl) (hd:Nat.blt d N.n=true:=by exact rfl):O P N all (⟨some d,.convert s t x,ty,pos,af,none⟩::rest) Q σ e L:=O.r5 h hd kk
theorem Y1 {s:TypeId} [i:iu P s .u8] [j:iu P t .u32] {c:UInt8} (kk:O P N all rest Q ((d,cW c.toUInt32)::σ) e L) (h:ev σ x=some (u8 c):=by exact rfl) (hd:Nat.blt d N.n=true:=by exact rfl):O P N all (⟨some d,.convert s t x,ty,pos,af,none⟩::rest) Q σ e L:=O.r6 h hd kk
theorem Y2 {len el g o i:Nat} [s:rZ P t len el 1] (kk:O P N all rest Q ((d,.pointer (some ⟨g,o+i,none⟩))::σ) e L) (h:ev σ x=some (.pointer (some ⟨g,o,none⟩)):=by exact rfl) (h1:ev σ y=some (.int k (i:Int)):=by exact rfl) (h0:i<len:=by omega) (hd:Nat.blt d N.n=true:=by exact rfl):O P N all (⟨some d,.indexAddr t x y,ty,pos,af,none⟩::rest) Q σ e L:=O.dX h h1 h0 hd kk
theorem Y3 {len el n g o:Nat} {i:Int} [s:rZ P t len el n] (kk:O P N all rest Q ((d,.pointer (some ⟨g,o+i.toNat*n,none⟩))::σ) e L) (h:ev σ x=some (.pointer (some ⟨g,o,none⟩)):=by exact rfl) (h1:ev σ y=some (.int k i):=by exact rfl) (h0:0≤i∧i<len:=by omega) (hd:Nat.blt d N.n=true:=by exact rfl):O P N all (⟨some d,.indexAddr t x y,ty,pos,af,none⟩::rest) Q σ e L:=O.dG h h1 h0 hd kk
theorem Y4 {len el i:Nat} {cs:List Value} {v:Value} [s:rZ P t len el 1] [q:dL P el] (kk:O P N all rest Q ((d,v)::σ) e L) (h:ev σ x=some (.agg cs.toArray):=by exact rfl) (h1:ev σ y=some (.int k (i:Int)):=by exact rfl) (h0:i<len:=by omega) (hv:cs[i]?=some v:=by (first|assumption|exact rfl)) (hd:Nat.blt d N.n=true:=by exact rfl):O P N all (⟨some d,.index t x y,ty,pos,af,none⟩::rest) Q σ e L:=O.Gs h h1 h0 hv hd kk
theorem Y5 {len el n:Nat} {z:Value} {parts:List (Nat × Operand)} {vs:List (Nat × Value)} {cs:List Value} [s:rZ P t len el n] [j:fv P t z] (kk:O P N all rest Q ((d,.agg cs.toArray)::σ) e L) (h:uU σ parts=some vs:=by exact rfl) (hlen:vs.length=len:=by exact rfl) (hz:z.cells.size=len*n:=by exact rfl) (hc:gS n 0 vs cs:=by (repeat first|exact Bs.gS.nil|apply Bs.gS.one rfl rfl|apply Bs.gS.one (Bs.eQ (by assumption)) rfl|(apply Bs.gS.agg;exact rfl));done) (hd:Nat.blt d N.n=true:=by exact rfl):O P N all (⟨some d,.build t parts.toArray,ty,pos,af,none⟩::rest) Q σ e L:=O.mF h hlen hz hc hd kk
end
end Go.Bs
namespace Go.Bs
abbrev pt (g:Nat):Value:=.pointer (some ⟨g,0,none⟩)
abbrev nY:Value:=.slice none 0 0
theorem zE {L L':List cJ} (h:cz L L':=by ((repeat first|exact aX|exact bF|refine bh ?_|(apply bw;exact (by (repeat first|exact cR.zero|apply cR.succ);done))|refine cz.drop ?_);done)):cz L L':=h
theorem zP {L R:List cJ} {A:cJ} (h:cR L A R:=by ((repeat first|exact cR.zero|apply cR.succ);done)):cR L A R:=h
theorem zR {L:List cJ} {p:Addr} {v:Value} (h:Rd L p v:=by ((repeat first|exact bP .zero rfl|assumption|apply Rd.tail);done)):Rd L p v:=h
theorem zA {L:List cJ} {g o:Nat} {cs:List Value} (h:dZ L g o cs:=by ((repeat first|exact bU .zero|assumption|apply dZ.tail);done)):dZ L g o cs:=h
theorem zB {L:List cJ} {v:Value} {l:List UInt8} (h:db L v l:=by ((repeat first|exact bb .zero|exact cE.view .zero|assumption|apply db.tail);done)):db L v l:=h
theorem zL {L:List cJ} {n k:Nat} {v:Value} {xs:List Value} (h:cE L n v k xs:=by ((repeat first|exact bb .zero|assumption|apply cE.tail);done)):cE L n v k xs:=h
theorem zS {σ σ':Env} (h:∀ k v,get σ' k=some v→get σ k=some v:=by ((repeat first|exact dd|refine cC rfl ?_);done)):∀ k v,get σ' k=some v→get σ k=some v:=h
theorem zO {l:List Value} (h:∀ v∈l,v.oneCell'=true:=by ((repeat first|exact Ix|(apply DO;first|exact rfl|assumption));done)):∀ v∈l,v.oneCell'=true:=h
theorem zU {L L':List cJ} {A A':cJ} (h:wb L A A' L':=by ((repeat first|exact wb.zero|apply wb.succ);done)):wb L A A' L':=h
theorem zK {α:Sort _} {a b:α} (h:a=b:=by kernel_rfl):a=b:=h
theorem zI {α:Sort _} {a b:α} (h:a=b:=by (first|(simp only [aC,Nat.add_zero,Nat.reduceAdd,List.drop_succ_cons,List.drop_zero,List.take_succ_cons,List.take_zero];done)|(simp only [aC,Nat.add_zero,Nat.reduceAdd,List.drop_succ_cons,List.drop_zero,List.take_succ_cons,List.take_zero];exact rfl))):a=b:=h
theorem zX {α:Sort _} {a b:α} (h:a=b:=by exact rfl):a=b:=h
theorem zo {p:Prop} (h:p:=by omega):p:=h
theorem zT {cs cs':List Value} {n:Nat} {v:Value} (h:gx cs n v cs':=by ((repeat first|exact gx.zero|apply gx.succ);done)):gx cs n v cs':=h
theorem zW {cs cs' vs:List Value} {n:Nat} (h:iw cs n vs cs':=by ((repeat first|exact iw.nil|apply iw.cons|exact gx.zero|apply gx.succ);done)):iw cs n vs cs':=h
theorem zQ {n i:Nat} {vs:List (Nat × Value)} {cs:List Value} (h:Bs.gS n i vs cs:=by ((repeat first|exact Bs.gS.nil|apply Bs.gS.one rfl rfl|apply Bs.gS.one (Bs.eQ (by assumption)) rfl|(apply Bs.gS.agg;exact rfl));done)):Bs.gS n i vs cs:=h
theorem zF {α:Sort _} {a b:α} (h:a=b:=by (first|(simp [Instr.fill,Value.cells];done)|(simp [Instr.fill,Value.cells];rfl))):a=b:=h
theorem zn {p:Prop} (h:p:=by (first|omega|assumption|exact fun h=>h rfl)):p:=h
theorem zy {p:Prop} (h:p:=by (first|omega|assumption|rfl)):p:=h
theorem zw {a b:Int} (h:a=b:=by (first|exact wrap_i64 (by omega) (by omega)|exact wrap_u32 (by omega) (by omega)|exact wrap_u8 (by omega) (by omega))):a=b:=h
theorem zm {p:Prop} (h:p:=by (simp only [maxLen];omega)):p:=h
theorem zd {p:Prop} (h:p:=by (dsimp only;omega)):p:=h
theorem zl {p:Prop} (h:p:=by simp [maxLen]):p:=h
theorem zV {P:Program} {σ:Env} {L:List cJ} {rs:List ResultVar} {vs:List Value} (h:rY P σ L rs vs:=by ((repeat first|exact rY.nil|(apply rY.tmp;exact rfl)|(apply rY.agg;exact rfl;(focus ((repeat first|exact bU .zero|assumption|apply dZ.tail);done));exact rfl)|(apply rY.cell;exact rfl;(focus ((repeat first|exact bP .zero rfl|assumption|apply Rd.tail);done))));done)):rY P σ L rs vs:=h
theorem zN {T:List Nat} {l:Array Bool} {C:Prop} (h:fp T l=false:=by kernel_rfl):fp T l=true→C:=Iv h
structure Bx (p:Prop):Prop where
 out:p
theorem wB {G H:Prop} (h:H) (t:Bx H→G:=by (intro h;(repeat' first|apply Zf|apply Ze|apply Zd|apply Zc|refine Za ?_|refine Zb ?_|apply YE|refine Yz ?_|refine YA ?_|apply YC|refine Zi ?_|refine Zj ?_|refine Zh ?_|apply YF|apply YB|apply YH|apply YI|refine Zk ?_|refine Ym ?_|refine ZA ?_|refine ZB ?_|refine Zn ?_|refine Zo ?_|refine ZS ?_|refine Zg ?_|refine Yd ?_|refine YQ ?_|refine YR ?_|refine Zl ?_|refine Zm ?_|refine Yh ?_|apply YD|apply YG|apply YJ|refine YK ?_|refine Yg ?_|refine YN ?_|refine Yw ?_|refine Yx ?_|refine Yy ?_|refine Zy ?_|refine Zz ?_|refine Ye ?_|refine ZY ?_|refine ZZ ?_|refine Z6 ?_|refine Yf ?_|refine Zu ?_|refine ZP ?_|refine ZQ ?_|refine Ya ?_|refine Yb ?_|refine Yi ?_|refine ZU ?_|refine ZV ?_|refine Zq ?_|refine Zs ?_|refine Zt ?_|refine ZM ?_|refine ZN ?_|refine Z7 ?_|refine Z8 ?_|refine ZJ ?_|refine ZK ?_|refine ZG ?_|refine ZH ?_|refine Z1 ?_|refine ZW ?_|refine ZX ?_|refine Yr ?_|refine Ys ?_|refine Yt ?_|refine YL ?_|refine Z0 ?_|refine Z3 ?_|refine Z2 ?_|refine ZD ?_|refine ZE ?_|refine YP ?_|refine YS ?_|refine YM ?_|refine Yu ?_|fail);exact h.out)):G:=t ⟨h⟩
theorem wA {G H:Prop} (h:H) (t:Bx H→G:=by (intro h;(first|apply Zf|apply Ze|apply Zd|apply Zc|refine Za ?_|refine Zb ?_|apply YE|refine Yz ?_|refine YA ?_|apply YC|refine Zi ?_|refine Zj ?_|refine Zh ?_|apply YF|apply YB|apply YH|apply YI|refine Zk ?_|refine Ym ?_|refine ZA ?_|refine ZB ?_|refine Zn ?_|refine Zo ?_|refine ZS ?_|refine Zg ?_|refine Yd ?_|refine YQ ?_|refine YR ?_|refine Zl ?_|refine Zm ?_|refine Yh ?_|apply YD|apply YG|apply YJ|refine YK ?_|refine Yg ?_|refine YN ?_|refine Yw ?_|refine Yx ?_|refine Yy ?_|refine Zy ?_|refine Zz ?_|refine Ye ?_|refine ZY ?_|refine ZZ ?_|refine Z6 ?_|refine Yf ?_|refine Zu ?_|refine ZP ?_|refine ZQ ?_|refine Ya ?_|refine Yb ?_|refine Yi ?_|refine ZU ?_|refine ZV ?_|refine Zq ?_|refine Zs ?_|refine Zt ?_|refine ZM ?_|refine ZN ?_|refine Z7 ?_|refine Z8 ?_|refine ZJ ?_|refine ZK ?_|refine ZG ?_|refine ZH ?_|refine Z1 ?_|refine ZW ?_|refine ZX ?_|refine Yr ?_|refine Ys ?_|refine Yt ?_|refine YL ?_|refine Z0 ?_|refine Z3 ?_|refine Z2 ?_|refine ZD ?_|refine ZE ?_|refine YP ?_|refine YS ?_|refine YM ?_|refine Yu ?_|fail);(repeat' first|apply Zf|apply Ze|apply Zd|apply Zc|refine Za ?_|refine Zb ?_|apply YE|refine Yz ?_|refine YA ?_|apply YC|refine Zi ?_|refine Zj ?_|refine Zh ?_|apply YF|apply YB|apply YH|apply YI|refine Zk ?_|refine Ym ?_|refine ZA ?_|refine ZB ?_|refine Zn ?_|refine Zo ?_|refine ZS ?_|refine Zg ?_|refine Yd ?_|refine YQ ?_|refine YR ?_|refine Zl ?_|refine Zm ?_|refine Yh ?_|apply YD|apply YG|apply YJ|refine YK ?_|refine Yg ?_|refine YN ?_|refine Yw ?_|refine Yx ?_|refine Yy ?_|refine Zy ?_|refine Zz ?_|refine Ye ?_|refine ZY ?_|refine ZZ ?_|refine Z6 ?_|refine Yf ?_|refine Zu ?_|refine ZP ?_|refine ZQ ?_|refine Ya ?_|refine Yb ?_|refine Yi ?_|refine ZU ?_|refine ZV ?_|refine Zq ?_|refine Zs ?_|refine Zt ?_|refine ZM ?_|refine ZN ?_|refine Z7 ?_|refine Z8 ?_|refine ZJ ?_|refine ZK ?_|refine ZG ?_|refine ZH ?_|refine Z1 ?_|refine ZW ?_|refine ZX ?_|refine Yr ?_|refine Ys ?_|refine Yt ?_|refine YL ?_|refine Z0 ?_|refine Z3 ?_|refine Z2 ?_|refine ZD ?_|refine ZE ?_|refine YP ?_|refine YS ?_|refine YM ?_|refine Yu ?_|fail);exact h.out)):G:=t ⟨h⟩
section
variable {P:Program} {N:Fr} {ops:Array Oper} {T:List Nat} {R0 L:List cJ} {n:Nat} {l:Array Bool} {Q:fO} {σ:Env} {e:World}
variable {d:Nat} {op:Op} {ty:TypeId} {pos:String} {af:Array Edge} {x:Operand} {v:Value} {t:TypeId}
theorem tk (i:Nat) (v:Value) (hi:ops[i]?=some ⟨some d,op,ty,pos,af,none⟩) (hv:cD P N op ty v σ e R0) (k:A P N ops T R0 n (l.setIfInBounds i true) Q ((d,v)::σ) e L)
 (hb:nd ops T l i=true:=by kernel_rfl) (hL:cz L R0:=by exact zE) (hd:Nat.blt d N.n=true:=by exact rfl):A P N ops T R0 (n+1) l Q σ e L:=bG i v hi hb hL hv hd k
theorem dt (i:Nat) (v:Value) {j:Nat} {want:Bool} (hi:ops[i]?=some ⟨some d,op,ty,pos,af,some (j,want)⟩) (hv:cD P N op ty v σ e R0) (k:A P N ops T R0 n (l.setIfInBounds i true) Q ((d,v)::σ) e L)
 (hg:p0 σ ops j want=some true:=by exact rfl) (hb:nd ops T l i=true:=by kernel_rfl) (hL:cz L R0:=by exact zE) (hd:Nat.blt d N.n=true:=by exact rfl):A P N ops T R0 (n+1) l Q σ e L:=A.UK i v hi hg hb hL hv hd k
theorem tM (i:Nat) (k:A P N ops T R0 n (l.setIfInBounds i true) Q ((d,v)::σ) e L) (hi:ops[i]?=some ⟨some d,.move x,ty,pos,af,none⟩:=by exact rfl) (hx:ev σ x=some v:=by exact rfl)
 (hb:nd ops T l i=true:=by kernel_rfl) (hL:cz L R0:=by exact zE) (hd:Nat.blt d N.n=true:=by exact rfl):A P N ops T R0 (n+1) l Q σ e L:=bG i v hi hb hL (bu hx) hd k
theorem tA (i:Nat) (k:A P N ops T R0 n (l.setIfInBounds i true) Q ((d,v)::σ) e L) (hi:ops[i]?=some ⟨some d,.assign x,ty,pos,af,none⟩:=by exact rfl) (hx:ev σ x=some v:=by exact rfl)
 (hb:nd ops T l i=true:=by kernel_rfl) (hL:cz L R0:=by exact zE) (hd:Nat.blt d N.n=true:=by exact rfl):A P N ops T R0 (n+1) l Q σ e L:=bG i v hi hb hL (bj hx) hd k
theorem tL (i:Nat) {p:Addr} [j:dL P t] (k:A P N ops T R0 n (l.setIfInBounds i true) Q ((d,v)::σ) e L) (hi:ops[i]?=some ⟨some d,.load t x,ty,pos,af,none⟩:=by exact rfl) (hx:ev σ x=some (.pointer (some p)):=by exact rfl) (hr:Rd R0 p v:=by exact zR)
 (hb:nd ops T l i=true:=by kernel_rfl) (hL:cz L R0:=by exact zE) (hd:Nat.blt d N.n=true:=by exact rfl):A P N ops T R0 (n+1) l Q σ e L:=bG i v hi hb hL (bp hx hr) hd k
theorem tN (i:Nat) {p:Addr} (k:A P N ops T R0 n (l.setIfInBounds i true) Q ((d,.pointer (some p))::σ) e L) (hi:ops[i]?=some ⟨some d,.nilCheck x,ty,pos,af,none⟩:=by exact rfl) (hx:ev σ x=some (.pointer (some p)):=by exact rfl)
 (hb:nd ops T l i=true:=by kernel_rfl) (hL:cz L R0:=by exact zE) (hd:Nat.blt d N.n=true:=by exact rfl):A P N ops T R0 (n+1) l Q σ e L:=bG i _ hi hb hL (bn hx) hd k
theorem tF (i:Nat) {s f off g o:Nat} [j:cM P s f off] (k:A P N ops T R0 n (l.setIfInBounds i true) Q ((d,.pointer (some ⟨g,o+off,none⟩))::σ) e L) (hi:ops[i]?=some ⟨some d,.fieldAddr s x f,ty,pos,af,none⟩:=by exact rfl) (hx:ev σ x=some (.pointer (some ⟨g,o,none⟩)):=by exact rfl)
 (hb:nd ops T l i=true:=by kernel_rfl) (hL:cz L R0:=by exact zE) (hd:Nat.blt d N.n=true:=by exact rfl):A P N ops T R0 (n+1) l Q σ e L:=bG i _ hi hb hL (ba hx) hd k
theorem tJ (i:Nat) {m g o:Nat} {cs:List Value} [j:jf P t m] (k:A P N ops T R0 n (l.setIfInBounds i true) Q ((d,.agg cs.toArray)::σ) e L) (hi:ops[i]?=some ⟨some d,.load t x,ty,pos,af,none⟩:=by exact rfl) (hx:ev σ x=some (.pointer (some ⟨g,o,none⟩)):=by exact rfl) (hr:dZ R0 g o cs:=by exact zA) (hl:cs.length=m:=by exact rfl)
 (hb:nd ops T l i=true:=by kernel_rfl) (hL:cz L R0:=by exact zE) (hd:Nat.blt d N.n=true:=by exact rfl):A P N ops T R0 (n+1) l Q σ e L:=bG i _ hi hb hL (cD.dy hx hr hl) hd k
theorem tO (i:Nat) {dst:Option Tmp} (h:Do P N ⟨dst,op,ty,pos,af,none⟩ (fun σ' L'=>(fp T (l.setIfInBounds i true)=true→cz L' R0)∧A P N ops T R0 n (l.setIfInBounds i true) Q σ' e L') σ e L) (hi:ops[i]?=some ⟨dst,op,ty,pos,af,none⟩:=by exact rfl) (hr:((Region.ready .any ops l) == [i])=true:=by kernel_rfl):A P N ops T R0 (n+1) l Q σ e L:=A.one i hi hr h
theorem dV {l':Array Bool} {gd:Option (Nat × Bool)} (h:cD P N op ty v σ e L) (k:A P N ops T R0 n l' Q ((d,v)::σ) e L) (hu:fp T l'=false:=by kernel_rfl) (hd:Nat.blt d N.n=true:=by exact rfl) :
 Do P N ⟨some d,op,ty,pos,af,gd⟩ (fun σ' L'=>(fp T l'=true→cz L' R0)∧A P N ops T R0 n l' Q σ' e L') σ e L:=bN h hd ⟨Iv hu,k⟩
theorem zg {gd:Option (Nat × Bool)} {K:Env→List cJ→Prop} {m g off:Nat} {y:Operand} {vs cs cs':List Value} {E:TypeId} {L':List cJ} [i:jf P t m] (k:K σ L') (h:ev σ x=some (.pointer (some ⟨g,off,none⟩)):=by exact rfl) (h1:ev σ y=some (.agg vs.toArray):=by exact rfl) (hn:vs.length=m:=by exact rfl) (hv:∀ v∈vs,v.oneCell'=true:=by exact zO)
 (u:wb L (cK g cs E (0,0)) (cK g cs' E (0,0)) L':=by exact zU) (jL:iw cs off vs cs':=by exact zW):Do P N ⟨none,.store t x y,ty,pos,af,gd⟩ K σ e L:=Do.ek h h1 hn hv u jL k
theorem tf {gd:Option (Nat × Bool)} {K:Env→List cJ→Prop} {g off:Nat} {y:Operand} {cs cs':List Value} {E:TypeId} {L':List cJ} [i:dL P t] (k:K σ L') (h:ev σ x=some (.pointer (some ⟨g,off,none⟩)):=by exact rfl) (h1:ev σ y=some v:=by exact rfl) (hv:v.oneCell'=true:=by exact rfl)
 (u:wb L (cK g cs E (0,0)) (cK g cs' E (0,0)) L':=by exact zU) (jL:gx cs off v cs':=by exact zT):Do P N ⟨none,.store t x y,ty,pos,af,gd⟩ K σ e L:=b7 h h1 hv u jL k
end
end Go.Bs
namespace Go.Proofs
open Go.Bs
open Tryz
instance : iu prog 3 .i64:=⟨underlying3⟩
instance : dL prog 3:=⟨isAgg3,sizeOf3⟩
instance : fv prog 3 (.int .i64 0):=⟨zeroValue3⟩
instance : ru prog 3 (.int .i64 0) 1 8:=⟨by kernel_rfl⟩
instance : dL prog 4:=⟨isAgg4,sizeOf4⟩
instance : iu prog 5 .u8:=⟨underlying5⟩
instance : dL prog 5:=⟨isAgg5,sizeOf5⟩
instance : ru prog 5 (.int .u8 0) 1 1:=⟨by kernel_rfl⟩
instance : u0 prog 9:=⟨underlying9⟩
instance : dL prog 9:=⟨isAgg9,sizeOf9⟩
instance : ru prog 9 (.string ByteArray.empty) 1 16:=⟨by kernel_rfl⟩
instance : je prog 22 3 1:=⟨underlying22,sizeOf3⟩
instance : rr prog 24 226:=⟨underlying24⟩
instance : dL prog 24:=⟨isAgg24,sizeOf24⟩
instance : ru prog 24 (.pointer none) 1 8:=⟨by kernel_rfl⟩
instance : rr prog 26 143:=⟨underlying26⟩
instance : dL prog 26:=⟨isAgg26,sizeOf26⟩
instance : je prog 30 5 1:=⟨underlying30,sizeOf5⟩
instance : dL prog 30:=⟨isAgg30,sizeOf30⟩
instance : fv prog 30 (.slice none 0 0):=⟨zeroValue30⟩
instance : ru prog 30 (.slice none 0 0) 1 24:=⟨by kernel_rfl⟩
instance : je prog 38 30 1:=⟨underlying38,sizeOf30⟩
instance : dL prog 38:=⟨isAgg38,sizeOf38⟩
instance : ru prog 38 (.slice none 0 0) 1 24:=⟨by kernel_rfl⟩
instance : jf prog 40 3:=⟨isAgg40,sizeOf40⟩
instance : cM prog 40 0 0:=⟨fun _ _ _=>by kernel_rfl⟩
instance : cM prog 40 1 1:=⟨fun _ _ _=>by kernel_rfl⟩
instance : cM prog 40 2 2:=⟨fun _ _ _=>by kernel_rfl⟩
instance : eu prog 40 #[(0,1),(1,1),(2,1)] #[(.int .i64 0),(.int .i64 0),(.slice none 0 0)]:=⟨fun pv cells w h=>by
 simp [Instr.build,zeroValue40,runUnderlying40,Value.cells,sizeOf3,sizeOf38]
 (try simp at h)
 (try simp only [show (ByteArray.empty:ByteArray)=⟨#[]⟩ from rfl] at h)
 simp [h]⟩
instance : fv prog 40 (.agg #[(.int .i64 0),(.int .i64 0),(.slice none 0 0)]):=⟨zeroValue40⟩
instance : jf prog 47 8:=⟨isAgg47,sizeOf47⟩
instance : cM prog 47 0 0:=⟨fun _ _ _=>by kernel_rfl⟩
instance : cM prog 47 1 1:=⟨fun _ _ _=>by kernel_rfl⟩
instance : cM prog 47 2 2:=⟨fun _ _ _=>by kernel_rfl⟩
instance : cM prog 47 3 3:=⟨fun _ _ _=>by kernel_rfl⟩
instance : cM prog 47 4 4:=⟨fun _ _ _=>by kernel_rfl⟩
instance : cM prog 47 5 5:=⟨fun _ _ _=>by kernel_rfl⟩
instance : cM prog 47 6 6:=⟨fun _ _ _=>by kernel_rfl⟩
instance : cM prog 47 7 7:=⟨fun _ _ _=>by kernel_rfl⟩
instance : eu prog 47 #[(0,1),(1,1),(2,1),(3,1),(4,1),(5,1),(6,1),(7,1)] #[(.int .i64 0),(.int .i64 0),(.int .i64 0),(.int .i64 0),(.int .i64 0),(.int .i64 0),(.int .i64 0),(.string ByteArray.empty)]:=⟨fun pv cells w h=>by
 simp [Instr.build,zeroValue47,runUnderlying47,Value.cells,sizeOf3,sizeOf9]
 (try simp at h)
 (try simp only [show (ByteArray.empty:ByteArray)=⟨#[]⟩ from rfl] at h)
 simp [h]⟩
instance : fv prog 47 (.agg #[(.int .i64 0),(.int .i64 0),(.int .i64 0),(.int .i64 0),(.int .i64 0),(.int .i64 0),(.int .i64 0),(.string ByteArray.empty)]):=⟨zeroValue47⟩
instance : rr prog 49 171:=⟨underlying49⟩
instance : dL prog 49:=⟨isAgg49,sizeOf49⟩
instance : fv prog 49 (.pointer none):=⟨zeroValue49⟩
instance : jf prog 53 3:=⟨isAgg53,sizeOf53⟩
instance : cM prog 53 1 1:=⟨fun _ _ _=>by kernel_rfl⟩
instance : eu prog 53 #[(0,1),(1,1),(2,1)] #[(.int .i64 0),(.int .i64 0),(.int .i64 0)]:=⟨fun pv cells w h=>by
 simp [Instr.build,zeroValue53,runUnderlying53,Value.cells,sizeOf3,sizeOf27]
 (try simp at h)
 (try simp only [show (ByteArray.empty:ByteArray)=⟨#[]⟩ from rfl] at h)
 simp [h]⟩
instance : fv prog 53 (.agg #[(.int .i64 0),(.int .i64 0),(.int .i64 0)]):=⟨zeroValue53⟩
instance : ru prog 53 (.agg #[(.int .i64 0),(.int .i64 0),(.int .i64 0)]) 3 24:=⟨by kernel_rfl⟩
instance : jf prog 56 5:=⟨isAgg56,sizeOf56⟩
instance : cM prog 56 0 0:=⟨fun _ _ _=>by kernel_rfl⟩
instance : cM prog 56 1 1:=⟨fun _ _ _=>by kernel_rfl⟩
instance : cM prog 56 2 2:=⟨fun _ _ _=>by kernel_rfl⟩
instance : cM prog 56 4 4:=⟨fun _ _ _=>by kernel_rfl⟩
instance : eu prog 56 #[(0,1),(1,1),(2,1),(3,1),(4,1)] #[(.int .i64 0),(.int .i64 0),(.int .i64 0),(.int .i64 0),(.slice none 0 0)]:=⟨fun pv cells w h=>by
 simp [Instr.build,zeroValue56,runUnderlying56,Value.cells,sizeOf3,sizeOf30]
 (try simp at h)
 (try simp only [show (ByteArray.empty:ByteArray)=⟨#[]⟩ from rfl] at h)
 simp [h]⟩
instance : fv prog 56 (.agg #[(.int .i64 0),(.int .i64 0),(.int .i64 0),(.int .i64 0),(.slice none 0 0)]):=⟨zeroValue56⟩
instance : ru prog 56 (.agg #[(.int .i64 0),(.int .i64 0),(.int .i64 0),(.int .i64 0),(.slice none 0 0)]) 5 56:=⟨by kernel_rfl⟩
instance : je prog 57 53 3:=⟨underlying57,sizeOf53⟩
instance : je prog 59 56 5:=⟨underlying59,sizeOf56⟩
instance : iu prog 61 .u32:=⟨underlying61⟩
instance : dL prog 61:=⟨isAgg61,sizeOf61⟩
instance : fv prog 61 (.int .u32 0):=⟨zeroValue61⟩
instance : rr prog 62 173:=⟨underlying62⟩
instance : dL prog 62:=⟨isAgg62,sizeOf62⟩
instance : jf prog 67 4:=⟨isAgg67,sizeOf67⟩
instance : cM prog 67 0 0:=⟨fun _ _ _=>by kernel_rfl⟩
instance : cM prog 67 1 1:=⟨fun _ _ _=>by kernel_rfl⟩
instance : cM prog 67 2 2:=⟨fun _ _ _=>by kernel_rfl⟩
instance : cM prog 67 3 3:=⟨fun _ _ _=>by kernel_rfl⟩
instance : eu prog 67 #[(0,1),(1,1),(2,1),(3,1)] #[(.string ByteArray.empty),(.int .u32 0),(.slice none 0 0),(.slice none 0 0)]:=⟨fun pv cells w h=>by
 simp [Instr.build,zeroValue67,runUnderlying67,Value.cells,sizeOf9,sizeOf30,sizeOf61]
 (try simp at h)
 (try simp only [show (ByteArray.empty:ByteArray)=⟨#[]⟩ from rfl] at h)
 simp [h]⟩
instance : fv prog 67 (.agg #[(.string ByteArray.empty),(.int .u32 0),(.slice none 0 0),(.slice none 0 0)]):=⟨zeroValue67⟩
instance : je prog 70 176 6:=⟨underlying70,sizeOf176⟩
instance : rr prog 73 181:=⟨underlying73⟩
instance : dL prog 73:=⟨isAgg73,sizeOf73⟩
instance : jf prog 83 2:=⟨isAgg83,sizeOf83⟩
instance : cM prog 83 0 0:=⟨fun _ _ _=>by kernel_rfl⟩
instance : cM prog 83 1 1:=⟨fun _ _ _=>by kernel_rfl⟩
instance : eu prog 83 #[(0,1),(1,1)] #[(.int .i64 0),(.slice none 0 0)]:=⟨fun pv cells w h=>by
 simp [Instr.build,zeroValue83,runUnderlying83,Value.cells,sizeOf3,sizeOf30]
 (try simp at h)
 (try simp only [show (ByteArray.empty:ByteArray)=⟨#[]⟩ from rfl] at h)
 simp [h]⟩
instance : fv prog 83 (.agg #[(.int .i64 0),(.slice none 0 0)]):=⟨zeroValue83⟩
instance : jf prog 85 3:=⟨isAgg85,sizeOf85⟩
instance : cM prog 85 0 0:=⟨fun _ _ _=>by kernel_rfl⟩
instance : cM prog 85 1 1:=⟨fun _ _ _=>by kernel_rfl⟩
instance : cM prog 85 2 2:=⟨fun _ _ _=>by kernel_rfl⟩
instance : eu prog 85 #[(0,1),(1,1),(2,1)] #[(.int .i64 0),(.slice none 0 0),(.slice none 0 0)]:=⟨fun pv cells w h=>by
 simp [Instr.build,zeroValue85,runUnderlying85,Value.cells,sizeOf3,sizeOf38]
 (try simp at h)
 (try simp only [show (ByteArray.empty:ByteArray)=⟨#[]⟩ from rfl] at h)
 simp [h]⟩
instance : fv prog 85 (.agg #[(.int .i64 0),(.slice none 0 0),(.slice none 0 0)]):=⟨zeroValue85⟩
instance : jf prog 87 5:=⟨isAgg87,sizeOf87⟩
instance : cM prog 87 0 0:=⟨fun _ _ _=>by kernel_rfl⟩
instance : cM prog 87 1 2:=⟨fun _ _ _=>by kernel_rfl⟩
instance : eu prog 87 #[(0,2),(2,3)] #[(.int .i64 0),(.slice none 0 0),(.int .i64 0),(.slice none 0 0),(.slice none 0 0)]:=⟨fun pv cells w h=>by
 simp [Instr.build,zeroValue87,runUnderlying87,Value.cells,sizeOf83,sizeOf85]
 (try simp at h)
 (try simp only [show (ByteArray.empty:ByteArray)=⟨#[]⟩ from rfl] at h)
 simp [h]⟩
instance : fv prog 87 (.agg #[(.int .i64 0),(.slice none 0 0),(.int .i64 0),(.slice none 0 0),(.slice none 0 0)]):=⟨zeroValue87⟩
instance : je prog 90 9 1:=⟨underlying90,sizeOf9⟩
instance : je prog 94 96 4:=⟨underlying94,sizeOf96⟩
instance : dL prog 94:=⟨isAgg94,sizeOf94⟩
instance : jf prog 96 4:=⟨isAgg96,sizeOf96⟩
instance : cM prog 96 0 0:=⟨fun _ _ _=>by kernel_rfl⟩
instance : cM prog 96 1 1:=⟨fun _ _ _=>by kernel_rfl⟩
instance : eu prog 96 #[(0,1),(1,3)] #[(.int .i64 0),(.int .i64 0),(.slice none 0 0),(.slice none 0 0)]:=⟨fun pv cells w h=>by
 simp [Instr.build,zeroValue96,runUnderlying96,Value.cells,sizeOf3,sizeOf85]
 (try simp at h)
 (try simp only [show (ByteArray.empty:ByteArray)=⟨#[]⟩ from rfl] at h)
 simp [h]⟩
instance : fv prog 96 (.agg #[(.int .i64 0),(.int .i64 0),(.slice none 0 0),(.slice none 0 0)]):=⟨zeroValue96⟩
instance : ru prog 96 (.agg #[(.int .i64 0),(.int .i64 0),(.slice none 0 0),(.slice none 0 0)]) 4 64:=⟨by kernel_rfl⟩
instance : rr prog 98 194:=⟨underlying98⟩
instance : dL prog 98:=⟨isAgg98,sizeOf98⟩
instance : ru prog 98 (.pointer none) 1 8:=⟨by kernel_rfl⟩
instance : jf prog 102 3:=⟨isAgg102,sizeOf102⟩
instance : cM prog 102 0 0:=⟨fun _ _ _=>by kernel_rfl⟩
instance : cM prog 102 1 1:=⟨fun _ _ _=>by kernel_rfl⟩
instance : cM prog 102 2 2:=⟨fun _ _ _=>by kernel_rfl⟩
instance : eu prog 102 #[(0,1),(1,1),(2,1)] #[(.int .i64 0),(.int .i64 0),(.slice none 0 0)]:=⟨fun pv cells w h=>by
 simp [Instr.build,zeroValue102,runUnderlying102,Value.cells,sizeOf3,sizeOf38]
 (try simp at h)
 (try simp only [show (ByteArray.empty:ByteArray)=⟨#[]⟩ from rfl] at h)
 simp [h]⟩
instance : fv prog 102 (.agg #[(.int .i64 0),(.int .i64 0),(.slice none 0 0)]):=⟨zeroValue102⟩
instance : jf prog 106 3:=⟨isAgg106,sizeOf106⟩
instance : cM prog 106 0 0:=⟨fun _ _ _=>by kernel_rfl⟩
instance : cM prog 106 1 1:=⟨fun _ _ _=>by kernel_rfl⟩
instance : cM prog 106 2 2:=⟨fun _ _ _=>by kernel_rfl⟩
instance : eu prog 106 #[(0,1),(1,1),(2,1)] #[(.slice none 0 0),(.slice none 0 0),(.int .i64 0)]:=⟨fun pv cells w h=>by
 simp [Instr.build,zeroValue106,runUnderlying106,Value.cells,sizeOf3,sizeOf30,sizeOf38]
 (try simp at h)
 (try simp only [show (ByteArray.empty:ByteArray)=⟨#[]⟩ from rfl] at h)
 simp [h]⟩
instance : fv prog 106 (.agg #[(.slice none 0 0),(.slice none 0 0),(.int .i64 0)]):=⟨zeroValue106⟩
instance : jf prog 109 10:=⟨isAgg109,sizeOf109⟩
instance : cM prog 109 0 0:=⟨fun _ _ _=>by kernel_rfl⟩
instance : cM prog 109 1 1:=⟨fun _ _ _=>by kernel_rfl⟩
instance : cM prog 109 2 4:=⟨fun _ _ _=>by kernel_rfl⟩
instance : cM prog 109 3 9:=⟨fun _ _ _=>by kernel_rfl⟩
instance : eu prog 109 #[(0,1),(1,3),(4,5),(9,1)] #[(.slice none 0 0),(.int .i64 0),(.int .i64 0),(.slice none 0 0),(.int .i64 0),(.slice none 0 0),(.int .i64 0),(.slice none 0 0),(.slice none 0 0),(.slice none 0 0)]:=⟨fun pv cells w h=>by
 simp [Instr.build,zeroValue109,runUnderlying109,Value.cells,sizeOf30,sizeOf40,sizeOf87,sizeOf94]
 (try simp at h)
 (try simp only [show (ByteArray.empty:ByteArray)=⟨#[]⟩ from rfl] at h)
 simp [h]⟩
instance : fv prog 109 (.agg #[(.slice none 0 0),(.int .i64 0),(.int .i64 0),(.slice none 0 0),(.int .i64 0),(.slice none 0 0),(.int .i64 0),(.slice none 0 0),(.slice none 0 0),(.slice none 0 0)]):=⟨zeroValue109⟩
instance : dL prog 116:=⟨isAgg116,sizeOf116⟩
instance : je prog 118 121 4:=⟨underlying118,sizeOf121⟩
instance : dL prog 118:=⟨isAgg118,sizeOf118⟩
instance : eu prog 121 #[(0,1),(1,1),(2,1),(3,1)] #[(.int .i64 0),(.int .i64 0),(.int .i64 0),(.slice none 0 0)]:=⟨fun pv cells w h=>by
 simp [Instr.build,zeroValue121,runUnderlying121,Value.cells,sizeOf3,sizeOf30]
 (try simp at h)
 (try simp only [show (ByteArray.empty:ByteArray)=⟨#[]⟩ from rfl] at h)
 simp [h]⟩
instance : ru prog 121 (.agg #[(.int .i64 0),(.int .i64 0),(.int .i64 0),(.slice none 0 0)]) 4 48:=⟨by kernel_rfl⟩
instance : rr prog 129 221:=⟨underlying129⟩
instance : dL prog 129:=⟨isAgg129,sizeOf129⟩
instance : rr prog 131 224:=⟨underlying131⟩
instance : dL prog 131:=⟨isAgg131,sizeOf131⟩
instance : dL prog 135:=⟨isAgg135,sizeOf135⟩
instance : dL prog 138:=⟨isAgg138,sizeOf138⟩
instance : dL prog 141:=⟨isAgg141,sizeOf141⟩
instance : cM prog 143 0 0:=⟨fun _ _ _=>by kernel_rfl⟩
instance : cM prog 143 1 1:=⟨fun _ _ _=>by kernel_rfl⟩
instance : cM prog 143 2 2:=⟨fun _ _ _=>by kernel_rfl⟩
instance : cM prog 143 4 4:=⟨fun _ _ _=>by kernel_rfl⟩
instance : cM prog 143 5 5:=⟨fun _ _ _=>by kernel_rfl⟩
instance : cM prog 143 6 6:=⟨fun _ _ _=>by kernel_rfl⟩
instance : cM prog 143 7 7:=⟨fun _ _ _=>by kernel_rfl⟩
instance : cM prog 143 8 12:=⟨fun _ _ _=>by kernel_rfl⟩
instance : eu prog 143 #[(0,1),(1,1),(2,1),(3,1),(4,1),(5,1),(6,1),(7,5),(12,1)] #[(.pointer none),(.pointer none),(.slice none 0 0),(.slice none 0 0),(.slice none 0 0),(.slice none 0 0),(.map none),(.int .i64 0),(.slice none 0 0),(.int .i64 0),(.slice none 0 0),(.slice none 0 0),(.bool false)]:=⟨fun pv cells w h=>by
 simp [Instr.build,zeroValue143,runUnderlying143,Value.cells,sizeOf4,sizeOf30,sizeOf38,sizeOf87,sizeOf135,sizeOf138,sizeOf141]
 (try simp at h)
 (try simp only [show (ByteArray.empty:ByteArray)=⟨#[]⟩ from rfl] at h)
 simp [h]⟩
instance : rr prog 151 238:=⟨underlying151⟩
instance : dL prog 151:=⟨isAgg151,sizeOf151⟩
instance : dL prog 160:=⟨isAgg160,sizeOf160⟩
instance : ru prog 160 .nilFunc 1 8:=⟨by kernel_rfl⟩
instance : je prog 161 160 1:=⟨underlying161,sizeOf160⟩
instance : je prog 163 249 2:=⟨underlying163,sizeOf249⟩
instance : dL prog 163:=⟨isAgg163,sizeOf163⟩
instance : je prog 164 98 1:=⟨underlying164,sizeOf98⟩
instance : dL prog 164:=⟨isAgg164,sizeOf164⟩
instance : dL prog 165:=⟨isAgg165,sizeOf165⟩
instance : dL prog 166:=⟨isAgg166,sizeOf166⟩
instance : cM prog 168 0 0:=⟨fun _ _ _=>by kernel_rfl⟩
instance : cM prog 168 1 1:=⟨fun _ _ _=>by kernel_rfl⟩
instance : eu prog 168 #[(0,1),(1,1)] #[(.map none),(.map none)]:=⟨fun pv cells w h=>by
 simp [Instr.build,zeroValue168,runUnderlying168,Value.cells,sizeOf166]
 (try simp at h)
 (try simp only [show (ByteArray.empty:ByteArray)=⟨#[]⟩ from rfl] at h)
 simp [h]⟩
instance : dL prog 169:=⟨isAgg169,sizeOf169⟩
instance : cM prog 171 0 0:=⟨fun _ _ _=>by kernel_rfl⟩
instance : cM prog 171 1 8:=⟨fun _ _ _=>by kernel_rfl⟩
instance : cM prog 171 2 9:=⟨fun _ _ _=>by kernel_rfl⟩
instance : cM prog 171 3 10:=⟨fun _ _ _=>by kernel_rfl⟩
instance : cM prog 171 4 11:=⟨fun _ _ _=>by kernel_rfl⟩
instance : cM prog 171 5 12:=⟨fun _ _ _=>by kernel_rfl⟩
instance : cM prog 171 6 13:=⟨fun _ _ _=>by kernel_rfl⟩
instance : cM prog 171 7 14:=⟨fun _ _ _=>by kernel_rfl⟩
instance : cM prog 171 8 15:=⟨fun _ _ _=>by kernel_rfl⟩
instance : cM prog 171 9 16:=⟨fun _ _ _=>by kernel_rfl⟩
instance : cM prog 171 10 19:=⟨fun _ _ _=>by kernel_rfl⟩
instance : cM prog 171 11 20:=⟨fun _ _ _=>by kernel_rfl⟩
instance : cM prog 171 12 21:=⟨fun _ _ _=>by kernel_rfl⟩
instance : cM prog 171 13 23:=⟨fun _ _ _=>by kernel_rfl⟩
instance : cM prog 171 14 25:=⟨fun _ _ _=>by kernel_rfl⟩
instance : cM prog 171 15 26:=⟨fun _ _ _=>by kernel_rfl⟩
instance : eu prog 171 #[(0,8),(8,1),(9,1),(10,1),(11,1),(12,1),(13,1),(14,1),(15,1),(16,3),(19,1),(20,1),(21,2),(23,2),(25,1),(26,1)] #[(.int .i64 0),(.int .i64 0),(.int .i64 0),(.int .i64 0),(.int .i64 0),(.int .i64 0),(.int .i64 0),(.string ByteArray.empty),(.slice none 0 0),(.pointer none),(.pointer none),(.slice none 0 0),(.pointer none),(.pointer none),(.pointer none),(.pointer none),(.slice none 0 0),(.slice none 0 0),(.int .i64 0),(.int .i64 0),(.slice none 0 0),(.map none),(.map none),(.int .i64 0),(.slice none 0 0),(.bool false),(.map none)]:=⟨fun pv cells w h=>by
 simp [Instr.build,zeroValue171,runUnderlying171,Value.cells,sizeOf3,sizeOf4,sizeOf26,sizeOf47,sizeOf62,sizeOf73,sizeOf83,sizeOf106,sizeOf118,sizeOf129,sizeOf131,sizeOf163,sizeOf164,sizeOf165,sizeOf168,sizeOf169]
 (try simp at h)
 (try simp only [show (ByteArray.empty:ByteArray)=⟨#[]⟩ from rfl] at h)
 simp [h]⟩
instance : cM prog 173 0 0:=⟨fun _ _ _=>by kernel_rfl⟩
instance : cM prog 173 1 1:=⟨fun _ _ _=>by kernel_rfl⟩
instance : cM prog 173 2 2:=⟨fun _ _ _=>by kernel_rfl⟩
instance : cM prog 173 3 5:=⟨fun _ _ _=>by kernel_rfl⟩
instance : cM prog 173 4 9:=⟨fun _ _ _=>by kernel_rfl⟩
instance : eu prog 173 #[(0,1),(1,1),(2,3),(5,4),(9,1)] #[(.pointer none),(.string ByteArray.empty),(.slice none 0 0),(.slice none 0 0),(.int .i64 0),(.string ByteArray.empty),(.int .u32 0),(.slice none 0 0),(.slice none 0 0),(.int .i64 0)]:=⟨fun pv cells w h=>by
 simp [Instr.build,zeroValue173,runUnderlying173,Value.cells,sizeOf3,sizeOf9,sizeOf67,sizeOf106,sizeOf138]
 (try simp at h)
 (try simp only [show (ByteArray.empty:ByteArray)=⟨#[]⟩ from rfl] at h)
 simp [h]⟩
instance : jf prog 176 6:=⟨isAgg176,sizeOf176⟩
instance : cM prog 176 0 0:=⟨fun _ _ _=>by kernel_rfl⟩
instance : cM prog 176 1 1:=⟨fun _ _ _=>by kernel_rfl⟩
instance : cM prog 176 2 2:=⟨fun _ _ _=>by kernel_rfl⟩
instance : cM prog 176 3 3:=⟨fun _ _ _=>by kernel_rfl⟩
instance : cM prog 176 4 4:=⟨fun _ _ _=>by kernel_rfl⟩
instance : cM prog 176 5 5:=⟨fun _ _ _=>by kernel_rfl⟩
instance : cM prog 181 0 0:=⟨fun _ _ _=>by kernel_rfl⟩
instance : cM prog 181 1 1:=⟨fun _ _ _=>by kernel_rfl⟩
instance : cM prog 181 2 2:=⟨fun _ _ _=>by kernel_rfl⟩
instance : cM prog 181 4 4:=⟨fun _ _ _=>by kernel_rfl⟩
instance : cM prog 181 5 9:=⟨fun _ _ _=>by kernel_rfl⟩
instance : eu prog 181 #[(0,1),(1,1),(2,1),(3,1),(4,5),(9,1)] #[(.slice none 0 0),(.slice none 0 0),(.slice none 0 0),(.slice none 0 0),(.int .i64 0),(.slice none 0 0),(.int .i64 0),(.slice none 0 0),(.slice none 0 0),(.bool false)]:=⟨fun pv cells w h=>by
 simp [Instr.build,zeroValue181,runUnderlying181,Value.cells,sizeOf4,sizeOf30,sizeOf38,sizeOf72,sizeOf87]
 (try simp at h)
 (try simp only [show (ByteArray.empty:ByteArray)=⟨#[]⟩ from rfl] at h)
 simp [h]⟩
instance : je prog 182 38 1:=⟨underlying182,sizeOf38⟩
instance : cM prog 194 0 0:=⟨fun _ _ _=>by kernel_rfl⟩
instance : cM prog 194 1 1:=⟨fun _ _ _=>by kernel_rfl⟩
instance : cM prog 194 2 2:=⟨fun _ _ _=>by kernel_rfl⟩
instance : cM prog 194 3 3:=⟨fun _ _ _=>by kernel_rfl⟩
instance : cM prog 194 4 4:=⟨fun _ _ _=>by kernel_rfl⟩
instance : cM prog 194 6 6:=⟨fun _ _ _=>by kernel_rfl⟩
instance : cM prog 194 7 8:=⟨fun _ _ _=>by kernel_rfl⟩
instance : cM prog 194 8 12:=⟨fun _ _ _=>by kernel_rfl⟩
instance : eu prog 194 #[(0,1),(1,1),(2,1),(3,1),(4,1),(5,1),(6,2),(8,4),(12,1)] #[(.pointer none),(.pointer none),(.int .i64 0),(.slice none 0 0),(.slice none 0 0),(.slice none 0 0),(.int .i64 0),(.slice none 0 0),(.int .i64 0),(.int .i64 0),(.slice none 0 0),(.slice none 0 0),(.bool false)]:=⟨fun pv cells w h=>by
 simp [Instr.build,zeroValue194,runUnderlying194,Value.cells,sizeOf3,sizeOf4,sizeOf30,sizeOf83,sizeOf96,sizeOf135,sizeOf138]
 (try simp at h)
 (try simp only [show (ByteArray.empty:ByteArray)=⟨#[]⟩ from rfl] at h)
 simp [h]⟩
instance : dL prog 206:=⟨isAgg206,sizeOf206⟩
instance : dL prog 209:=⟨isAgg209,sizeOf209⟩
instance : rr prog 210 289:=⟨underlying210⟩
instance : dL prog 219:=⟨isAgg219,sizeOf219⟩
instance : cM prog 221 0 0:=⟨fun _ _ _=>by kernel_rfl⟩
instance : cM prog 221 1 1:=⟨fun _ _ _=>by kernel_rfl⟩
instance : cM prog 221 2 2:=⟨fun _ _ _=>by kernel_rfl⟩
instance : cM prog 221 3 3:=⟨fun _ _ _=>by kernel_rfl⟩
instance : cM prog 221 4 4:=⟨fun _ _ _=>by kernel_rfl⟩
instance : eu prog 221 #[(0,1),(1,1),(2,1),(3,1),(4,1)] #[(.pointer none),(.pointer none),(.pointer none),(.int .i64 0),(.slice none 0 0)]:=⟨fun pv cells w h=>by
 simp [Instr.build,zeroValue221,runUnderlying221,Value.cells,sizeOf3,sizeOf26,sizeOf38,sizeOf138,sizeOf219]
 (try simp at h)
 (try simp only [show (ByteArray.empty:ByteArray)=⟨#[]⟩ from rfl] at h)
 simp [h]⟩
instance : je prog 222 268 4:=⟨underlying222,sizeOf268⟩
instance : dL prog 222:=⟨isAgg222,sizeOf222⟩
instance : cM prog 224 0 0:=⟨fun _ _ _=>by kernel_rfl⟩
instance : cM prog 224 1 1:=⟨fun _ _ _=>by kernel_rfl⟩
instance : eu prog 224 #[(0,1),(1,1)] #[(.int .i64 0),(.slice none 0 0)]:=⟨fun pv cells w h=>by
 simp [Instr.build,zeroValue224,runUnderlying224,Value.cells,sizeOf3,sizeOf222]
 (try simp at h)
 (try simp only [show (ByteArray.empty:ByteArray)=⟨#[]⟩ from rfl] at h)
 simp [h]⟩
instance : cM prog 226 0 0:=⟨fun _ _ _=>by kernel_rfl⟩
instance : cM prog 226 1 1:=⟨fun _ _ _=>by kernel_rfl⟩
instance : cM prog 226 2 2:=⟨fun _ _ _=>by kernel_rfl⟩
instance : cM prog 226 3 3:=⟨fun _ _ _=>by kernel_rfl⟩
instance : cM prog 226 4 4:=⟨fun _ _ _=>by kernel_rfl⟩
instance : eu prog 226 #[(0,1),(1,1),(2,1),(3,1),(4,1)] #[(.slice none 0 0),(.int .i64 0),(.int .i64 0),(.int .i64 0),(.bool false)]:=⟨fun pv cells w h=>by
 simp [Instr.build,zeroValue226,runUnderlying226,Value.cells,sizeOf3,sizeOf4,sizeOf30]
 (try simp at h)
 (try simp only [show (ByteArray.empty:ByteArray)=⟨#[]⟩ from rfl] at h)
 simp [h]⟩
instance : cM prog 228 0 0:=⟨fun _ _ _=>by kernel_rfl⟩
instance : cM prog 228 1 1:=⟨fun _ _ _=>by kernel_rfl⟩
instance : eu prog 228 #[(0,1),(1,1)] #[(.pointer none),(.int .i64 0)]:=⟨fun pv cells w h=>by
 simp [Instr.build,zeroValue228,runUnderlying228,Value.cells,sizeOf3,sizeOf138]
 (try simp at h)
 (try simp only [show (ByteArray.empty:ByteArray)=⟨#[]⟩ from rfl] at h)
 simp [h]⟩
instance : cM prog 233 0 0:=⟨fun _ _ _=>by kernel_rfl⟩
instance : cM prog 233 1 1:=⟨fun _ _ _=>by kernel_rfl⟩
instance : eu prog 233 #[(0,1),(1,1)] #[(.pointer none),(.int .i64 0)]:=⟨fun pv cells w h=>by
 simp [Instr.build,zeroValue233,runUnderlying233,Value.cells,sizeOf3,sizeOf24]
 (try simp at h)
 (try simp only [show (ByteArray.empty:ByteArray)=⟨#[]⟩ from rfl] at h)
 simp [h]⟩
instance : cM prog 238 0 0:=⟨fun _ _ _=>by kernel_rfl⟩
instance : eu prog 238 #[(0,1)] #[(.slice none 0 0)]:=⟨fun pv cells w h=>by
 simp [Instr.build,zeroValue238,runUnderlying238,Value.cells,sizeOf30]
 (try simp at h)
 (try simp only [show (ByteArray.empty:ByteArray)=⟨#[]⟩ from rfl] at h)
 simp [h]⟩
instance : dL prog 242:=⟨isAgg242,sizeOf242⟩
instance : ru prog 242 .nilFunc 1 8:=⟨by kernel_rfl⟩
instance : je prog 246 24 1:=⟨underlying246,sizeOf24⟩
instance : dL prog 246:=⟨isAgg246,sizeOf246⟩
instance : jf prog 249 2:=⟨isAgg249,sizeOf249⟩
instance : cM prog 249 0 0:=⟨fun _ _ _=>by kernel_rfl⟩
instance : cM prog 249 1 1:=⟨fun _ _ _=>by kernel_rfl⟩
instance : eu prog 249 #[(0,1),(1,1)] #[(.slice none 0 0),.nilFunc]:=⟨fun pv cells w h=>by
 simp [Instr.build,zeroValue249,runUnderlying249,Value.cells,sizeOf242,sizeOf246]
 (try simp at h)
 (try simp only [show (ByteArray.empty:ByteArray)=⟨#[]⟩ from rfl] at h)
 simp [h]⟩
instance : fv prog 249 (.agg #[(.slice none 0 0),.nilFunc]):=⟨zeroValue249⟩
instance : ru prog 249 (.agg #[(.slice none 0 0),.nilFunc]) 2 32:=⟨by kernel_rfl⟩
instance : jf prog 254 2:=⟨isAgg254,sizeOf254⟩
instance : cM prog 254 0 0:=⟨fun _ _ _=>by kernel_rfl⟩
instance : cM prog 254 1 1:=⟨fun _ _ _=>by kernel_rfl⟩
instance : eu prog 254 #[(0,1),(1,1)] #[(.int .i64 0),(.int .i64 0)]:=⟨fun pv cells w h=>by
 simp [Instr.build,zeroValue254,runUnderlying254,Value.cells,sizeOf3]
 (try simp at h)
 (try simp only [show (ByteArray.empty:ByteArray)=⟨#[]⟩ from rfl] at h)
 simp [h]⟩
instance : fv prog 254 (.agg #[(.int .i64 0),(.int .i64 0)]):=⟨zeroValue254⟩
instance : je prog 262 265 2:=⟨underlying262,sizeOf265⟩
instance : jf prog 265 2:=⟨isAgg265,sizeOf265⟩
instance : cM prog 265 0 0:=⟨fun _ _ _=>by kernel_rfl⟩
instance : cM prog 265 1 1:=⟨fun _ _ _=>by kernel_rfl⟩
instance : eu prog 265 #[(0,1),(1,1)] #[(.int .i64 0),(.int .i64 0)]:=⟨fun pv cells w h=>by
 simp [Instr.build,zeroValue265,runUnderlying265,Value.cells,sizeOf3]
 (try simp at h)
 (try simp only [show (ByteArray.empty:ByteArray)=⟨#[]⟩ from rfl] at h)
 simp [h]⟩
instance : fv prog 265 (.agg #[(.int .i64 0),(.int .i64 0)]):=⟨zeroValue265⟩
instance : ru prog 265 (.agg #[(.int .i64 0),(.int .i64 0)]) 2 16:=⟨by kernel_rfl⟩
instance : jf prog 268 4:=⟨isAgg268,sizeOf268⟩
instance : cM prog 268 0 0:=⟨fun _ _ _=>by kernel_rfl⟩
instance : cM prog 268 1 1:=⟨fun _ _ _=>by kernel_rfl⟩
instance : cM prog 268 2 2:=⟨fun _ _ _=>by kernel_rfl⟩
instance : cM prog 268 3 3:=⟨fun _ _ _=>by kernel_rfl⟩
instance : eu prog 268 #[(0,1),(1,1),(2,1),(3,1)] #[(.int .i64 0),(.int .i64 0),(.int .i64 0),(.slice none 0 0)]:=⟨fun pv cells w h=>by
 simp [Instr.build,zeroValue268,runUnderlying268,Value.cells,sizeOf3,sizeOf30]
 (try simp at h)
 (try simp only [show (ByteArray.empty:ByteArray)=⟨#[]⟩ from rfl] at h)
 simp [h]⟩
instance : fv prog 268 (.agg #[(.int .i64 0),(.int .i64 0),(.int .i64 0),(.slice none 0 0)]):=⟨zeroValue268⟩
instance : ru prog 268 (.agg #[(.int .i64 0),(.int .i64 0),(.int .i64 0),(.slice none 0 0)]) 4 48:=⟨by kernel_rfl⟩
instance : iu prog 278 .u64:=⟨underlying278⟩
instance : cM prog 289 0 0:=⟨fun _ _ _=>by kernel_rfl⟩
instance : cM prog 289 1 1:=⟨fun _ _ _=>by kernel_rfl⟩
instance : eu prog 289 #[(0,1),(1,1)] #[(.slice none 0 0),(.bool false)]:=⟨fun pv cells w h=>by
 simp [Instr.build,zeroValue289,runUnderlying289,Value.cells,sizeOf4,sizeOf30]
 (try simp at h)
 (try simp only [show (ByteArray.empty:ByteArray)=⟨#[]⟩ from rfl] at h)
 simp [h]⟩
instance : rZ prog 296 8 61 1:=⟨underlying296,sizeOf61⟩
instance : jf prog 296 8:=⟨isAgg296,sizeOf296⟩
instance : fv prog 296 (.agg #[(.int .u32 0),(.int .u32 0),(.int .u32 0),(.int .u32 0),(.int .u32 0),(.int .u32 0),(.int .u32 0),(.int .u32 0)]):=⟨zeroValue296⟩
instance : rZ prog 297 64 61 1:=⟨underlying297,sizeOf61⟩
instance : jf prog 297 64:=⟨isAgg297,sizeOf297⟩
instance : fv prog 297 (.agg #[(.int .u32 0),(.int .u32 0),(.int .u32 0),(.int .u32 0),(.int .u32 0),(.int .u32 0),(.int .u32 0),(.int .u32 0),(.int .u32 0),(.int .u32 0),(.int .u32 0),(.int .u32 0),(.int .u32 0),(.int .u32 0),(.int .u32 0),(.int .u32 0),(.int .u32 0),(.int .u32 0),(.int .u32 0),(.int .u32 0),(.int .u32 0),(.int .u32 0),(.int .u32 0),(.int .u32 0),(.int .u32 0),(.int .u32 0),(.int .u32 0),(.int .u32 0),(.int .u32 0),(.int .u32 0),(.int .u32 0),(.int .u32 0),(.int .u32 0),(.int .u32 0),(.int .u32 0),(.int .u32 0),(.int .u32 0),(.int .u32 0),(.int .u32 0),(.int .u32 0),(.int .u32 0),(.int .u32 0),(.int .u32 0),(.int .u32 0),(.int .u32 0),(.int .u32 0),(.int .u32 0),(.int .u32 0),(.int .u32 0),(.int .u32 0),(.int .u32 0),(.int .u32 0),(.int .u32 0),(.int .u32 0),(.int .u32 0),(.int .u32 0),(.int .u32 0),(.int .u32 0),(.int .u32 0),(.int .u32 0),(.int .u32 0),(.int .u32 0),(.int .u32 0),(.int .u32 0)]):=⟨zeroValue297⟩
instance : iu prog 301 .u64:=⟨underlying301⟩
instance : je prog 307 242 1:=⟨underlying307,sizeOf242⟩
instance : dL prog 317:=⟨isAgg317,sizeOf317⟩
instance : je prog 319 330 3:=⟨underlying319,sizeOf330⟩
instance : dL prog 319:=⟨isAgg319,sizeOf319⟩
instance : cM prog 321 0 0:=⟨fun _ _ _=>by kernel_rfl⟩
instance : cM prog 321 1 3:=⟨fun _ _ _=>by kernel_rfl⟩
instance : cM prog 321 2 4:=⟨fun _ _ _=>by kernel_rfl⟩
instance : cM prog 321 3 5:=⟨fun _ _ _=>by kernel_rfl⟩
instance : cM prog 321 4 6:=⟨fun _ _ _=>by kernel_rfl⟩
instance : cM prog 321 5 11:=⟨fun _ _ _=>by kernel_rfl⟩
instance : cM prog 321 6 12:=⟨fun _ _ _=>by kernel_rfl⟩
instance : cM prog 321 7 13:=⟨fun _ _ _=>by kernel_rfl⟩
instance : cM prog 321 8 18:=⟨fun _ _ _=>by kernel_rfl⟩
instance : eu prog 321 #[(0,3),(3,1),(4,1),(5,1),(6,5),(11,1),(12,1),(13,5),(18,1)] #[(.slice none 0 0),(.slice none 0 0),(.int .i64 0),(.int .i64 0),(.pointer none),(.slice none 0 0),(.int .i64 0),(.slice none 0 0),(.int .i64 0),(.slice none 0 0),(.slice none 0 0),(.bool false),(.slice none 0 0),(.int .i64 0),(.slice none 0 0),(.int .i64 0),(.slice none 0 0),(.slice none 0 0),(.slice none 0 0)]:=⟨fun pv cells w h=>by
 simp [Instr.build,zeroValue321,runUnderlying321,Value.cells,sizeOf3,sizeOf4,sizeOf87,sizeOf94,sizeOf106,sizeOf317,sizeOf319]
 (try simp at h)
 (try simp only [show (ByteArray.empty:ByteArray)=⟨#[]⟩ from rfl] at h)
 simp [h]⟩
instance : cM prog 330 0 0:=⟨fun _ _ _=>by kernel_rfl⟩
instance : cM prog 330 1 1:=⟨fun _ _ _=>by kernel_rfl⟩
instance : cM prog 330 2 2:=⟨fun _ _ _=>by kernel_rfl⟩
instance : ru prog 330 (.agg #[(.int .i64 0),(.int .i64 0),(.bool false)]) 3 24:=⟨by kernel_rfl⟩
instance : jf prog 340 2:=⟨isAgg340,sizeOf340⟩
instance : eu prog 340 #[(0,1),(1,1)] #[(.int .i64 0),(.int .i64 0)]:=⟨fun pv cells w h=>by
 simp [Instr.build,zeroValue340,runUnderlying340,Value.cells,sizeOf3]
 (try simp at h)
 (try simp only [show (ByteArray.empty:ByteArray)=⟨#[]⟩ from rfl] at h)
 simp [h]⟩
instance : fv prog 340 (.agg #[(.int .i64 0),(.int .i64 0)]):=⟨zeroValue340⟩
instance : je prog 362 377 3:=⟨underlying362,sizeOf377⟩
instance : dL prog 362:=⟨isAgg362,sizeOf362⟩
instance : cM prog 364 0 0:=⟨fun _ _ _=>by kernel_rfl⟩
instance : cM prog 364 1 1:=⟨fun _ _ _=>by kernel_rfl⟩
instance : eu prog 364 #[(0,1),(1,1)] #[(.slice none 0 0),(.int .i64 0)]:=⟨fun pv cells w h=>by
 simp [Instr.build,zeroValue364,runUnderlying364,Value.cells,sizeOf3,sizeOf362]
 (try simp at h)
 (try simp only [show (ByteArray.empty:ByteArray)=⟨#[]⟩ from rfl] at h)
 simp [h]⟩
instance : je prog 366 368 2:=⟨underlying366,sizeOf368⟩
instance : dL prog 366:=⟨isAgg366,sizeOf366⟩
instance : jf prog 368 2:=⟨isAgg368,sizeOf368⟩
instance : cM prog 368 0 0:=⟨fun _ _ _=>by kernel_rfl⟩
instance : cM prog 368 1 1:=⟨fun _ _ _=>by kernel_rfl⟩
instance : eu prog 368 #[(0,1),(1,1)] #[(.slice none 0 0),(.int .i64 0)]:=⟨fun pv cells w h=>by
 simp [Instr.build,zeroValue368,runUnderlying368,Value.cells,sizeOf3,sizeOf30]
 (try simp at h)
 (try simp only [show (ByteArray.empty:ByteArray)=⟨#[]⟩ from rfl] at h)
 simp [h]⟩
instance : fv prog 368 (.agg #[(.slice none 0 0),(.int .i64 0)]):=⟨zeroValue368⟩
instance : ru prog 368 (.agg #[(.slice none 0 0),(.int .i64 0)]) 2 32:=⟨by kernel_rfl⟩
instance : cM prog 370 0 0:=⟨fun _ _ _=>by kernel_rfl⟩
instance : cM prog 370 1 1:=⟨fun _ _ _=>by kernel_rfl⟩
instance : cM prog 370 2 2:=⟨fun _ _ _=>by kernel_rfl⟩
instance : cM prog 370 3 3:=⟨fun _ _ _=>by kernel_rfl⟩
instance : eu prog 370 #[(0,1),(1,1),(2,1),(3,1)] #[(.int .i64 0),(.int .i64 0),(.int .i64 0),(.slice none 0 0)]:=⟨fun pv cells w h=>by
 simp [Instr.build,zeroValue370,runUnderlying370,Value.cells,sizeOf3,sizeOf366]
 (try simp at h)
 (try simp only [show (ByteArray.empty:ByteArray)=⟨#[]⟩ from rfl] at h)
 simp [h]⟩
instance : jf prog 377 3:=⟨isAgg377,sizeOf377⟩
instance : cM prog 377 0 0:=⟨fun _ _ _=>by kernel_rfl⟩
instance : cM prog 377 1 1:=⟨fun _ _ _=>by kernel_rfl⟩
instance : cM prog 377 2 2:=⟨fun _ _ _=>by kernel_rfl⟩
instance : eu prog 377 #[(0,1),(1,1),(2,1)] #[(.int .i64 0),(.int .i64 0),(.int .i64 0)]:=⟨fun pv cells w h=>by
 simp [Instr.build,zeroValue377,runUnderlying377,Value.cells,sizeOf3]
 (try simp at h)
 (try simp only [show (ByteArray.empty:ByteArray)=⟨#[]⟩ from rfl] at h)
 simp [h]⟩
instance : fv prog 377 (.agg #[(.int .i64 0),(.int .i64 0),(.int .i64 0)]):=⟨zeroValue377⟩
instance : ru prog 377 (.agg #[(.int .i64 0),(.int .i64 0),(.int .i64 0)]) 3 24:=⟨by kernel_rfl⟩
instance : rZ prog 402 4 4 1:=⟨underlying402,sizeOf4⟩
instance : fv prog 402 (.agg #[(.bool false),(.bool false),(.bool false),(.bool false)]):=⟨zeroValue402⟩
instance : cI prog 12 12:=⟨call12⟩
instance : cI prog 14 14:=⟨call14⟩
instance : cI prog 15 15:=⟨call15⟩
instance : cI prog 17 17:=⟨call17⟩
instance : cI prog 18 18:=⟨call18⟩
instance : cI prog 19 19:=⟨call19⟩
instance : cI prog 21 21:=⟨call21⟩
instance : cI prog 22 22:=⟨call22⟩
instance : cI prog 23 23:=⟨call23⟩
instance : cI prog 24 24:=⟨call24⟩
instance : cI prog 25 25:=⟨call25⟩
instance : cI prog 26 26:=⟨call26⟩
instance : cI prog 27 27:=⟨call27⟩
instance : cI prog 28 28:=⟨call28⟩
instance : cI prog 29 29:=⟨call29⟩
instance : cI prog 31 31:=⟨call31⟩
instance : cI prog 32 32:=⟨call32⟩
instance : cI prog 33 33:=⟨call33⟩
instance : cI prog 34 34:=⟨call34⟩
instance : cI prog 37 37:=⟨call37⟩
instance : cI prog 39 39:=⟨call39⟩
instance : cI prog 41 41:=⟨call41⟩
instance : cI prog 42 42:=⟨call42⟩
instance : cI prog 43 43:=⟨call43⟩
instance : cI prog 44 44:=⟨call44⟩
instance : cI prog 45 45:=⟨call45⟩
instance : cI prog 46 46:=⟨call46⟩
instance : cI prog 47 47:=⟨call47⟩
instance : cI prog 49 49:=⟨call49⟩
instance : cI prog 50 50:=⟨call50⟩
instance : cI prog 51 51:=⟨call51⟩
instance : cI prog 52 52:=⟨call52⟩
instance : cI prog 54 54:=⟨call54⟩
instance : cI prog 56 56:=⟨call56⟩
instance : cI prog 59 59:=⟨call59⟩
instance : cI prog 60 60:=⟨call60⟩
instance : cI prog 61 61:=⟨call61⟩
instance : cI prog 62 62:=⟨call62⟩
instance : cI prog 63 63:=⟨call63⟩
instance : cI prog 64 64:=⟨call64⟩
instance : cI prog 65 65:=⟨call65⟩
instance : cI prog 66 66:=⟨call66⟩
instance : cI prog 67 67:=⟨call67⟩
instance : cI prog 68 68:=⟨call68⟩
instance : cI prog 69 69:=⟨call69⟩
instance : cI prog 70 70:=⟨call70⟩
instance : cI prog 71 71:=⟨call71⟩
instance : cI prog 72 72:=⟨call72⟩
instance : cI prog 73 73:=⟨call73⟩
instance : cI prog 74 74:=⟨call74⟩
instance : cI prog 75 75:=⟨call75⟩
instance : cI prog 76 76:=⟨call76⟩
instance : cI prog 77 77:=⟨call77⟩
instance : cI prog 78 78:=⟨call78⟩
instance : cI prog 79 79:=⟨call79⟩
instance : cI prog 80 80:=⟨call80⟩
instance : cI prog 81 81:=⟨call81⟩
instance : cI prog 82 82:=⟨call82⟩
instance : cI prog 83 83:=⟨call83⟩
instance : cI prog 84 84:=⟨call84⟩
instance : cI prog 85 85:=⟨call85⟩
instance : cI prog 86 86:=⟨call86⟩
instance : cI prog 87 87:=⟨call87⟩
instance : cI prog 88 88:=⟨call88⟩
instance : cI prog 89 89:=⟨call89⟩
instance : cI prog 90 90:=⟨call90⟩
instance : cI prog 91 91:=⟨call91⟩
instance : cI prog 93 93:=⟨call93⟩
instance : cI prog 94 94:=⟨call94⟩
instance : cI prog 95 95:=⟨call95⟩
instance : cI prog 98 98:=⟨call98⟩
instance : cI prog 99 99:=⟨call99⟩
instance : cI prog 100 100:=⟨call100⟩
instance : cI prog 101 101:=⟨call101⟩
instance : cI prog 102 102:=⟨call102⟩
instance : cI prog 107 107:=⟨call107⟩
instance : cI prog 108 108:=⟨call108⟩
instance : cI prog 109 109:=⟨call109⟩
instance : cI prog 110 110:=⟨call110⟩
instance : cI prog 111 111:=⟨call111⟩
instance : cI prog 112 112:=⟨call112⟩
instance : cI prog 113 113:=⟨call113⟩
instance : cI prog 114 114:=⟨call114⟩
instance : cI prog 115 115:=⟨call115⟩
instance : cI prog 116 116:=⟨call116⟩
instance : cI prog 117 117:=⟨call117⟩
instance : cI prog 118 118:=⟨call118⟩
instance : cI prog 119 119:=⟨call119⟩
instance : cI prog 120 120:=⟨call120⟩
instance : cI prog 121 121:=⟨call121⟩
instance : cI prog 122 122:=⟨call122⟩
instance : cI prog 123 123:=⟨call123⟩
instance : cI prog 124 124:=⟨call124⟩
instance : cI prog 125 125:=⟨call125⟩
instance : cI prog 126 126:=⟨call126⟩
instance : cI prog 127 127:=⟨call127⟩
instance : cI prog 128 128:=⟨call128⟩
instance : cI prog 129 129:=⟨call129⟩
instance : cI prog 130 130:=⟨call130⟩
instance : cI prog 131 131:=⟨call131⟩
instance : cI prog 132 132:=⟨call132⟩
instance : cI prog 133 133:=⟨call133⟩
instance : cI prog 134 134:=⟨call134⟩
instance : cI prog 135 135:=⟨call135⟩
instance : cI prog 136 136:=⟨call136⟩
instance : cI prog 139 139:=⟨call139⟩
instance : cI prog 140 140:=⟨call140⟩
instance : cI prog 141 141:=⟨call141⟩
instance : cI prog 142 142:=⟨call142⟩
instance : cI prog 143 143:=⟨call143⟩
instance : cI prog 144 144:=⟨call144⟩
instance : cI prog 145 145:=⟨call145⟩
instance : cI prog 146 146:=⟨call146⟩
instance : cI prog 147 147:=⟨call147⟩
instance : cI prog 148 148:=⟨call148⟩
instance : cI prog 149 149:=⟨call149⟩
instance : cI prog 150 150:=⟨call150⟩
instance : cI prog 151 151:=⟨call151⟩
instance : cI prog 152 152:=⟨call152⟩
instance : cI prog 153 153:=⟨call153⟩
instance : cI prog 154 154:=⟨call154⟩
instance : cI prog 155 155:=⟨call155⟩
instance : cI prog 156 156:=⟨call156⟩
instance : cI prog 157 157:=⟨call157⟩
instance : cI prog 158 158:=⟨call158⟩
instance : cI prog 159 159:=⟨call159⟩
instance : cI prog 160 160:=⟨call160⟩
instance : cI prog 161 161:=⟨call161⟩
instance : cI prog 162 162:=⟨call162⟩
instance : cI prog 163 163:=⟨call163⟩
instance : cI prog 164 164:=⟨call164⟩
instance : cI prog 165 165:=⟨call165⟩
instance : cI prog 166 166:=⟨call166⟩
instance : cI prog 167 167:=⟨call167⟩
instance : cI prog 168 168:=⟨call168⟩
instance : cI prog 169 169:=⟨call169⟩
instance : cI prog 170 170:=⟨call170⟩
instance : cI prog 171 171:=⟨call171⟩
instance : cI prog 172 172:=⟨call172⟩
instance : cI prog 173 173:=⟨call173⟩
instance : cI prog 174 174:=⟨call174⟩
instance : cI prog 175 175:=⟨call175⟩
instance : cI prog 176 176:=⟨call176⟩
instance : cI prog 177 177:=⟨call177⟩
instance : cI prog 178 178:=⟨call178⟩
instance : cI prog 179 179:=⟨call179⟩
instance : cI prog 180 180:=⟨call180⟩
instance : cI prog 181 181:=⟨call181⟩
instance : cI prog 182 182:=⟨call182⟩
instance : cI prog 183 183:=⟨call183⟩
instance : cI prog 184 184:=⟨call184⟩
instance : cI prog 185 185:=⟨call185⟩
instance : cI prog 187 187:=⟨call187⟩
instance : cI prog 188 188:=⟨call188⟩
instance : cI prog 189 189:=⟨call189⟩
instance : cI prog 190 190:=⟨call190⟩
instance : cI prog 195 195:=⟨call195⟩
instance : cI prog 196 196:=⟨call196⟩
instance : cI prog 197 197:=⟨call197⟩
instance : cI prog 198 198:=⟨call198⟩
instance : cI prog 199 199:=⟨call199⟩
instance : cI prog 200 200:=⟨call200⟩
instance : cI prog 201 201:=⟨call201⟩
instance : cI prog 202 202:=⟨call202⟩
instance : cI prog 203 203:=⟨call203⟩
instance : cI prog 204 204:=⟨call204⟩
instance : cI prog 205 205:=⟨call205⟩
instance : cI prog 206 206:=⟨call206⟩
instance : cI prog 207 207:=⟨call207⟩
instance : cI prog 208 208:=⟨call208⟩
instance : cI prog 209 209:=⟨call209⟩
instance : cI prog 210 210:=⟨call210⟩
instance : cI prog 211 211:=⟨call211⟩
instance : cI prog 212 212:=⟨call212⟩
instance : cI prog 213 213:=⟨call213⟩
instance : cI prog 214 214:=⟨call214⟩
instance : cI prog 215 215:=⟨call215⟩
instance : cI prog 216 216:=⟨call216⟩
instance : cI prog 217 217:=⟨call217⟩
instance : cI prog 218 218:=⟨call218⟩
instance : cI prog 224 224:=⟨call224⟩
instance : cI prog 225 225:=⟨call225⟩
instance : cI prog 226 226:=⟨call226⟩
instance : cI prog 227 227:=⟨call227⟩
instance : cI prog 228 228:=⟨call228⟩
instance : cI prog 229 229:=⟨call229⟩
instance : cI prog 230 230:=⟨call230⟩
instance : cI prog 231 231:=⟨call231⟩
instance : cI prog 232 232:=⟨call232⟩
instance : cI prog 233 233:=⟨call233⟩
instance : cI prog 234 234:=⟨call234⟩
instance : cI prog 235 235:=⟨call235⟩
instance : cI prog 236 236:=⟨call236⟩
instance : cI prog 237 237:=⟨call237⟩
instance : cI prog 238 238:=⟨call238⟩
instance : cI prog 239 239:=⟨call239⟩
instance : cI prog 240 240:=⟨call240⟩
instance : cI prog 241 241:=⟨call241⟩
instance : cI prog 242 242:=⟨call242⟩
instance : cI prog 243 243:=⟨call243⟩
instance : cI prog 244 244:=⟨call244⟩
instance : cI prog 245 245:=⟨call245⟩
instance : cI prog 246 246:=⟨call246⟩
instance : cI prog 247 247:=⟨call247⟩
instance : cI prog 248 248:=⟨call248⟩
instance : cI prog 249 249:=⟨call249⟩
instance : cI prog 250 250:=⟨call250⟩
instance : cI prog 251 251:=⟨call251⟩
instance : cI prog 252 252:=⟨call252⟩
instance : cI prog 253 253:=⟨call253⟩
instance : cI prog 254 254:=⟨call254⟩
instance : cI prog 255 255:=⟨call255⟩
instance : cI prog 257 257:=⟨call257⟩
instance : cI prog 258 258:=⟨call258⟩
instance : cI prog 259 259:=⟨call259⟩
instance : cI prog 262 262:=⟨call262⟩
instance : cI prog 263 263:=⟨call263⟩
instance : cI prog 264 264:=⟨call264⟩
instance : cI prog 265 265:=⟨call265⟩
instance : cI prog 266 266:=⟨call266⟩
instance : cI prog 267 267:=⟨call267⟩
instance : cI prog 268 268:=⟨call268⟩
instance : cI prog 269 269:=⟨call269⟩
instance : cI prog 270 270:=⟨call270⟩
instance : cI prog 271 271:=⟨call271⟩
instance : cI prog 272 272:=⟨call272⟩
instance : cI prog 273 273:=⟨call273⟩
instance : cI prog 274 274:=⟨call274⟩
instance : cI prog 275 275:=⟨call275⟩
instance : cI prog 276 276:=⟨call276⟩
instance : cI prog 278 278:=⟨call278⟩
instance : cI prog 279 279:=⟨call279⟩
instance : cI prog 280 280:=⟨call280⟩
instance : cI prog 281 281:=⟨call281⟩
instance : cI prog 282 282:=⟨call282⟩
instance : cI prog 283 283:=⟨call283⟩
instance : cI prog 284 284:=⟨call284⟩
instance : cI prog 285 285:=⟨call285⟩
instance : cI prog 286 286:=⟨call286⟩
instance : cI prog 287 287:=⟨call287⟩
instance : cI prog 288 288:=⟨call288⟩
instance : cI prog 289 289:=⟨call289⟩
instance : cI prog 290 290:=⟨call290⟩
instance : cI prog 291 291:=⟨call291⟩
instance : cI prog 292 292:=⟨call292⟩
instance : cI prog 293 293:=⟨call293⟩
instance : cI prog 294 294:=⟨call294⟩
instance : cI prog 295 295:=⟨call295⟩
instance : cI prog 296 296:=⟨call296⟩
instance : cI prog 297 297:=⟨call297⟩
instance : cI prog 298 298:=⟨call298⟩
instance : cI prog 299 299:=⟨call299⟩
instance : cI prog 300 300:=⟨call300⟩
instance : cI prog 301 301:=⟨call301⟩
instance : cI prog 302 302:=⟨call302⟩
instance : cI prog 303 303:=⟨call303⟩
instance : cI prog 304 304:=⟨call304⟩
instance : cI prog 305 305:=⟨call305⟩
instance : cI prog 306 306:=⟨call306⟩
instance : cI prog 307 307:=⟨call307⟩
instance : cI prog 308 308:=⟨call308⟩
instance : cI prog 309 309:=⟨call309⟩
instance : cI prog 310 310:=⟨call310⟩
instance : cI prog 311 311:=⟨call311⟩
instance : cI prog 312 312:=⟨call312⟩
instance : cI prog 313 313:=⟨call313⟩
instance : cI prog 314 314:=⟨call314⟩
theorem Tryz.mixed:prog.follows .mixedOrders=true:=by kernel_rfl
end Go.Proofs
namespace Go.Bs
open Go.ChangeShapes Go.WideShapes Go.ChangeAt Go.RowKit
theorem Ct.calls {P:Program} {f:FuncId} {args:Array Value} {W:World} (h:Ct P f args W [eY W] (fun v L'=>v=.bool true∧∃ R,L'=eY W::R)) :
 Calls P f args W fun e w'=>e=.returned (.bool true)∧Below W.heap.size W w':=by
 have hs:Sat W [eY W] W:=⟨rfl,rfl,rfl,hp W,fun _=>none,fun _ _ _=>rfl,dj.le_refl _,fun _ _ e=>by simp at e,fun _ _=>rfl,trivial⟩
 refine (h W hs).mono ?_;rintro e w' ⟨v,L',rfl,⟨rfl,R,rfl⟩,oF⟩;refine ⟨rfl,?_⟩;obtain ⟨a,b,c,h1,h2,d,l1,l2,hB,hR⟩:=oF
 have U3:∀ k,k<W.heap.size→w'.heap[k]?=W.heap[k]?:=fun k hk=>by
  have h3:=hB k hk;rw [Array.getElem?_eq_getElem hk] at h3 ⊢
  exact l1 k _ h3
 refine ⟨a,b,c,?_,U3⟩;rcases Nat.lt_or_ge w'.heap.size W.heap.size with cO|Ql
 ·have h4:=U3 w'.heap.size cO;rw [Array.getElem?_eq_none (aS _),Array.getElem?_eq_getElem cO] at h4
  cases h4
 ·exact Ql
section
variable {H:Type} {enc:TypeId × Value→H} {P:Program}
theorem rH (hl:laidOutB P=true) {W W':World} (hb:Below W.heap.size W W'):∀ {ts:List TypeId} {vs:List Value} {ds:List (DataW H)} {ps:List MemPlace},
 (∀ t∈ts,P.readableRec t=true∧t<P.types.size)→(∀ x∈ps,x.block<W.heap.size)→DataW.TrodAll enc P W 0 (fun _=>true) true ts vs ds ps →
 DataW.TrodAll enc P W' 0 (fun b=>decide (b<W.heap.size)) true ts vs ds ps
 | [],[],[],_,_,_,h=>h
 | t::ts,v::vs,d::ds,ps,ht,cO,h=>by
  obtain ⟨p,q,h1,h2,rfl⟩:=h;have h3:=ht t (List.mem_cons_self ..)
  exact ⟨p,q,Below.trod hl h3.1 h3.2 h1 hb (fun x hx=>cO x (List.mem_append_left _ hx)),
   rH hl hb (fun t' h'=>ht t' (aT _ h')) (fun x hx=>cO x (List.mem_append_right _ hx)) h2,rfl⟩
 | [],[],_::_,_,_,_,h=>h.elim
 | [],_::_,_,_,_,_,h=>h.elim
 | _::_,[],_,_,_,_,h=>h.elim
 | _::_,_::_,[],_,_,_,h=>h.elim
theorem LZ {f:Func} {s:ChangeSpec} {apart fresh handsOn:Bool} {W W':World} {args:Array Value} {ds gs:List (DataW H)} {before:List MemPlace} {tb:TypeId}
 (hW:DataW.Whole enc P f.params.toList s.vars apart W args.toList ds gs before) (hv:s.vars=[]) (DR:s.fn H ds={ results:=[.lit (.bool true)],args:=ds })
 (Rx:f.resultTypes=#[tb]) (L3:P.underlying tb=some .bool) (hl:laidOutB P=true) (hr:∀ t∈f.params.toList,P.readableRec t=true∧t<P.types.size) (hb:Below W.heap.size W W') :
 s.post enc P f apart fresh handsOn false W args (.bool true) W':=by
 have cO:=hW.lt;have Yk:=hW;obtain ⟨p,q,hA,hV,rfl,UD,z9⟩:=hW;rw [hv] at hV
 have hg:gs=[]∧q=[]:=by
  cases gs with
  | nil=>exact ⟨rfl,hV⟩
  | cons _ _=>exact hV.elim
 obtain ⟨rfl,rfl⟩:=hg;refine ⟨ds,[],p++[],[],p,[],Yk,?_,?_,?_,?_,fun h=>by cases h⟩
 ·rw [aK,DR,Rx];refine ⟨[],[],⟨1,?_⟩,rfl,rfl⟩
  simp [DataW.trod,L3,Value.cells]
 ·rw [aK,DR];exact rH hl hb hr (fun x hx=>cO x (by simpa using hx)) hA
 ·rw [hv,aK,DR];exact rfl
 ·exact World.keptBut_mono (fun _ f=>f.elim) (Below.frame hb fun _=>False)
end
theorem kV {a:Int} (h:(Lit.int .i64 a).wf=true):-9223372036854775808≤a∧a≤9223372036854775807:=by
 have h1:IntKind.i64.min = -9223372036854775808:=rfl;have h2:IntKind.i64.max=9223372036854775807:=rfl;simp only [Lit.wf,Bool.and_eq_true,decide_eq_true_eq] at h
 omega
end Go.Bs
namespace Go.Bs
open Go.ChangeShapes Go.WideShapes Go.ChangeAt Go.RowKit
section
variable {P:Program} {W:World} {t e:TypeId} {cs:List Value} {n:Nat}
def Arg (P:Program) (W:World) (t:TypeId) (cs:List Value):Prop :=
 ∃ (H:Type) (enc:TypeId × Value→H) (base:Nat) (sp:Nat→Bool) (held:Bool) (JH:Nat) (x:DataW H × List MemPlace),DataW.trod enc P W base sp held JH t cs=some x∧∀ m∈x.1.weights P t,m≤reachBytes
theorem oM {k:IntKind} (ht:P.underlying t=some (.int k)) (h:Arg P W t cs):∃ m,cs=[.int k m]∧(Lit.int k m).wf=true:=by
 obtain ⟨H,enc,base,sp,held,JH,x,h1,h2⟩:=h;obtain ⟨m,h3,_,h4⟩:=DataW.trod_int ht h1;exact ⟨m,h3,h4⟩
theorem Gt {fs:Array Field} (ht:P.underlying t=some (.struct fs)) (h:Arg P W t cs) :
 cs.length=P.cellsOf t∧∀ (i:Nat) (f:Field),fs[i]?=some f→Arg P W f.type ((cs.drop f.offset).take (P.cellsOf f.type)):=by
 obtain ⟨H,enc,base,sp,held,JH,x,h1,h2⟩:=h;obtain ⟨xs,m,rfl,rfl,h3,h4,h5⟩:=DataW.trod_struct ht h1;refine ⟨h3,fun i f hf=>?_⟩;have cO:i<fs.size:=(Array.getElem?_eq_some_iff.1 hf).1;have h6:=h5 i f hf;rw [ab (by omega)] at h6
 refine ⟨H,enc,base,sp,held,m,_,h6,fun k hk=>h2 k ?_⟩;simp only [DataW.weights,ht];refine DataW.weights_mem_each (j:=i) (t:=f.type) (d:=(xs[i]'(by omega)).1) ?_ ?_ k hk
 ·simp [hf]
 ·simp [h4,cO]
theorem my {fs:Array Field} (ht:P.underlying t=some (.struct fs)) (h:Arg P W t cs) {i:Nat} {f:Field} (hf:fs[i]?=some f) (hc:P.cellsOf f.type=1) {c:Value} (B9:cs[f.offset]?=some c):Arg P W f.type [c]:=by
 have h1:=(Gt ht h).2 i f hf;rw [hc] at h1
 have h2:(cs.drop f.offset).take 1=[c]:=by
  have cO:f.offset<cs.length:=(List.getElem?_eq_some_iff.1 B9).1;rw [List.drop_eq_getElem_cons cO,List.take_succ_cons,List.take_zero];rw [ab cO] at B9
  cases B9
  rfl
 rwa [h2] at h1
theorem wi:∀ {css:List (List Value)},0<n→(∀ c∈css,c.length=n)→∀ j,css.flatten[j]?=(css[j / n]?).bind (fun c=>c[j % n]?)
 | [],_,_,j=>by simp
 | c::css,h0,h,j=>by
  have hc:=h c (List.mem_cons_self ..);simp only [List.flatten_cons];rcases Nat.lt_or_ge j n with hj|hj
  ·rw [List.getElem?_append_left (by omega),Nat.div_eq_of_lt hj,Nat.mod_eq_of_lt hj]
   simp
  ·rw [List.getElem?_append_right (by omega),hc,wi h0 (fun c' h'=>h c' (aT _ h')) (j - n)]
   have e1:j / n=(j - n) / n+1:=by
    conv=>lhs;rw [show j=(j - n)+n by omega]
    exact Nat.add_div_right _ h0
   have e2:j % n=(j - n) % n:=by
    conv=>lhs;rw [show j=(j - n)+n by omega]
    exact Nat.add_mod_right _ _
   rw [e1,e2]
   simp
theorem fa:∀ {css:List (List Value)},(∀ c∈css,c.length=n)→css.flatten.length=css.length*n
 | [],_=>by simp
 | c::css,h=>by
  have:=h c (List.mem_cons_self ..);have:=fa (css:=css) (fun c' h'=>h c' (aT _ h'));simp only [List.flatten_cons,aa,aN,Nat.add_mul,Nat.one_mul]
  omega
theorem nR {base:Nat} {a:Addr} {c:List Value} (h:W.cells? base a n=some c):c.length=n∧∀ r u,c[r]?=some u→W.cell? (a.add r)=some u:=by
 unfold World.cells? at h
 split at h
 ·have hl:=mapM_some_length h;simp only [List.length_range] at hl
  refine ⟨hl,fun r u hr=>?_⟩;have cO:r<n:=by rw [← hl];exact (List.getElem?_eq_some_iff.1 hr).1
  have:=mapM_some_get h r r (by simp [cO]);rw [this,hr]
 ·cases h
theorem add_plain (g o k:Nat):(⟨g,o,none⟩:Addr).add k=⟨g,o+k,none⟩:=by
 unfold Addr.add
 split
 ·rename_i h;subst h;rfl
 ·rfl
theorem A4 (ht:P.underlying t=some (.slice e)) (hn:P.cellsOf e=n) (h0:0<n) (h:Arg P W t cs) :
 ∃ v,∃ css:List (List Value),cs=[v]∧cE [eY W] n v css.length css.flatten∧css.length*P.bytesOf e≤reachBytes∧∀ c∈css,c.length=n∧Arg P W e c:=by
 subst hn;obtain ⟨H,enc,base,sp,held,JH,x,h1,h2⟩:=h;rcases DataW.trod_slice ht h1 with ⟨rfl,rfl⟩|⟨a,len,cap,L4,rest,m,rfl,rfl,rfl,hb,hl,hm,hlen,F8,_,_⟩
 ·exact ⟨_,[],rfl,cE.nil _ _,by simp,fun c hc=>by simp at hc⟩
 ·have hex:∀ i,i<len→∃ c y,W.cells? base (a.add (i*P.cellsOf e)) (P.cellsOf e)=some c∧DataW.trod enc P W base sp held m e c=some y∧L4[i]?=some y:=fun i hi=>by
   have h3:=F8 i hi;rw [ab (by omega)] at h3
   cases hc:W.cells? base (a.add (i*P.cellsOf e)) (P.cellsOf e) with
   | none=>rw [hc] at h3;cases h3
   | some c=>rw [hc] at h3;exact ⟨c,_,rfl,h3,ab (by omega)⟩
  have U4:∀ c∈(List.range len).map (fun i=>(W.cells? base (a.add (i*P.cellsOf e)) (P.cellsOf e)).getD []),∃ i,i<len∧W.cells? base (a.add (i*P.cellsOf e)) (P.cellsOf e)=some c:=fun c hc=>by
   obtain ⟨i,hi,rfl⟩:=aE.1 hc;obtain ⟨c',y,h3,_⟩:=hex i (List.mem_range.1 hi);exact ⟨i,List.mem_range.1 hi,by rw [h3];rfl⟩
  refine ⟨_,(List.range len).map (fun i=>(W.cells? base (a.add (i*P.cellsOf e)) (P.cellsOf e)).getD []),rfl,?_,?_,fun c hc=>?_⟩
  ·intro hh hx
   have Qp:∀ c∈(List.range len).map (fun i=>(W.cells? base (a.add (i*P.cellsOf e)) (P.cellsOf e)).getD []),c.length=P.cellsOf e:=fun c hc=>by
    obtain ⟨i,hi,h3⟩:=U4 c hc;exact (nR h3).1
   refine ⟨fa Qp,some a,cap,by simp,by simpa using hl,hm,fun h=>by simp at h,fun j u hj=>?_⟩;rw [wi h0 Qp] at hj
   simp only [Option.bind_eq_some_iff] at hj
   obtain ⟨c,wY,xu⟩:=hj;simp only [aL,Option.map_eq_some_iff] at wY
   obtain ⟨i,hi,rfl⟩:=wY
   have hi':i=j / P.cellsOf e∧i<len:=by
    have h8:=(List.getElem?_eq_some_iff.1 hi).1;simp only [List.length_range] at h8
    rw [List.getElem?_range h8] at hi
    cases hi
    exact ⟨rfl,h8⟩
   obtain ⟨c',y,h3,_⟩:=hex i hi'.2;rw [h3] at xu
   have h4:=(nR h3).2 _ _ xu;obtain ⟨c0,y0,h30,_⟩:=hex 0 (by omega);have U5:=(nR h30).2 0 _ (ab (by rw [(nR h30).1];exact h0));obtain ⟨g,o,sp'⟩:=a
   have wZ:sp'=none:=by
    cases sp' with
    | none=>rfl
    | some s =>
     rw [OA] at U5
     unfold dj.cell at U5
     simp only [Nat.zero_mul,Addr.add,aI,Option.isSome_some] at U5
     split at U5<;>cases U5
   subst wZ
   have h5:((⟨g,o,none⟩:Addr).add (i*P.cellsOf e)).add (j % P.cellsOf e)=⟨g,o+j,none⟩:=by
    have:i*P.cellsOf e+j % P.cellsOf e=j:=by rw [hi'.1];exact Nat.div_add_mod' j _
    rw [add_plain,add_plain,Nat.add_assoc,this]
   rw [h5] at h4
   exact ⟨g,o,rfl,Rd.base .zero h4 hh hx⟩
  ·simp only [ae,List.length_range];have:=h2 ((L4.length+rest.length)*P.bytesOf e) (by simp [DataW.weights,ht]);have h3:len*P.bytesOf e≤(L4.length+rest.length)*P.bytesOf e:=Nat.mul_le_mul_right _ (by omega)
   omega
  ·obtain ⟨i,hi,h3⟩:=U4 c hc;obtain ⟨c',y,h4,h5,h6⟩:=hex i hi;rw [h3] at h4
   cases h4
   refine ⟨(nR h3).1,H,enc,base,sp,held,m,y,h5,fun k hk=>h2 k ?_⟩;simp only [DataW.weights,ht,aQ,aJ];refine Or.inr (Or.inl ?_)
   have ry:∀ {l:List (DataW H × List MemPlace)} {y:DataW H × List MemPlace} {k:Nat},y∈l→k∈y.1.weights P e→k∈DataW.weightsAll P e (l.map (·.1)):=by
    intro l
    induction l with
    | nil=>intro y k h;simp at h
    | cons z l ih =>
     intro y k h hk;simp only [List.map_cons,DataW.weightsAll,aJ];rcases aQ.1 h with rfl|h
     ·exact Or.inl hk
     ·exact Or.inr (ih h hk)
   exact ry (az h6) hk
theorem u4 {α:Type} {f:α→List Value} {ok:α→Prop}:∀ {css:List (List Value)},(∀ c∈css,∃ a,c=f a∧ok a)→∃ l:List α,css=l.map f∧∀ a∈l,ok a
 | [],_=>⟨[],rfl,fun a h=>by simp at h⟩
 | c::css,h=>by
  obtain ⟨a,rfl,ha⟩:=h c (List.mem_cons_self ..);obtain ⟨l,rfl,hs⟩:=u4 (css:=css) fun c' h'=>h c' (aT _ h')
  refine ⟨a::l,rfl,fun b hb=>?_⟩;rcases aQ.1 hb with rfl|hb
  ·exact ha
  ·exact hs b hb
theorem wj {α:Type} (g:α→Value):∀ l:List α,(l.map fun a=>[g a]).flatten=l.map g
 | []=>rfl
 | a::l=>by simp [wj g l]
theorem JI (ht:P.underlying t=some (.slice e)) (he:P.underlying e=some (.int .u8)) (hn:P.cellsOf e=1) (hb:P.bytesOf e=1) (h:Arg P W t cs) :
 ∃ v,∃ l:List UInt8,cs=[v]∧db [eY W] v l∧l.length≤reachBytes:=by
 obtain ⟨v,css,rfl,h1,h2,h3⟩:=A4 ht hn (by omega) h
 obtain ⟨l,rfl,_⟩:=u4 (α:=UInt8) (f:=fun b=>[u8 b]) (ok:=fun _=>True) (css:=css) fun c hc=>by
  obtain ⟨m,rfl,hm⟩:=oM he (h3 c hc).2;have e1:IntKind.u8.min=0:=rfl;have e2:IntKind.u8.max=255:=rfl;simp only [Lit.wf,Bool.and_eq_true,decide_eq_true_eq] at hm
  refine ⟨UInt8.ofNat m.toNat,?_,trivial⟩
  have e3:((UInt8.ofNat m.toNat).toNat:Int)=m:=by
   rw [UInt8.toNat_ofNat']
   omega
  simp only [u8,e3]
 rw [wj] at h1
 simp only [ae,hb] at h1 h2
 exact ⟨v,l,rfl,h1,by omega⟩
theorem Ry {H:Type} {enc:TypeId × Value→H} {v:Value} {d:DataW H} {q:List MemPlace} {base:Nat} {sp:Nat→Bool} {held:Bool} (h:DataW.Trod enc P W base sp held t v d q) (hw:∀ m∈d.weights P t,m≤reachBytes):Arg P W t v.cells.toList:=by
 obtain ⟨JH,hf⟩:=h;exact ⟨H,enc,base,sp,held,JH,_,hf,hw⟩
def OJ (P:Program) (W:World) (t:TypeId) (v:Value):Prop:=(∃ base,Value.okWide P W .any base t v)∧Arg P W t v.cells.toList
def OK (P:Program) (W:World):List TypeId→List Value→Prop
 | [],[]=>True
 | t::ts,v::vs=>OJ P W t v∧OK P W ts vs
 | _,_=>False
theorem IA {H:Type} {enc:TypeId × Value→H} {base b2:Nat} {sp:Nat→Bool} {held:Bool}:∀ {ts:List TypeId} {vs:List Value} {ds:List (DataW H)} {q:List MemPlace},
 DataW.TrodAll enc P W base sp held ts vs ds q→(∀ m∈DataW.weightsEach P ts ds,m≤reachBytes)→(∀ (j:Nat) t v,ts[j]?=some t→vs[j]?=some v→Value.okWide P W .any b2 t v)→OK P W ts vs∧ds.length=ts.length
 | [],[],[],_,_,_,_=>⟨trivial,rfl⟩
 | t::ts,v::vs,d::ds,q,h,hw,hv=>by
  obtain ⟨p,q',h1,h2,rfl⟩:=h;have ih:=IA (ts:=ts) (vs:=vs) (ds:=ds) h2 (fun m hm=>hw m (by simp only [DataW.weightsEach,aJ];exact Or.inr hm)) (fun j t v h3 h4=>hv (j+1) t v (by simpa using h3) (by simpa using h4));exact ⟨⟨⟨⟨b2,hv 0 t v rfl rfl⟩,Ry h1 (fun m hm=>hw m (by simp only [DataW.weightsEach,aJ];exact Or.inl hm))⟩,ih.1⟩,by simp [ih.2]⟩
 | [],[],_::_,_,h,_,_=>h.elim
 | [],_::_,_,_,h,_,_=>h.elim
 | _::_,[],_,_,h,_,_=>h.elim
 | _::_,_::_,[],_,h,_,_=>h.elim
theorem L5 {k:IntKind} {v:Value} (ht:P.underlying t=some (.int k)) (h:OJ P W t v):∃ m,v=.int k m∧(Lit.int k m).wf=true:=by
 obtain ⟨⟨b,h1⟩,h2⟩:=h;obtain ⟨n,rfl⟩:=Go.WideShapes.okWide_int ht h1;obtain ⟨m,h3,h4⟩:=oM ht h2
 simp [Value.cells] at h3
 subst h3;exact ⟨_,rfl,h4⟩
theorem Gu {v:Value} (ht:P.underlying t=some (.slice e)) (h:OJ P W t v):Arg P W t [v]:=by
 obtain ⟨⟨b,h1⟩,h2⟩:=h;obtain ⟨a,l,c,rfl⟩:=Go.WideShapes.okWide_slice ht h1
 simpa [Value.cells] using h2
theorem Gv {H:Type} {enc:TypeId × Value→H} {a:Assume} {C:Checked} {os:Os} {f:FuncId} {fn:Func} {s:ChangeSpec} {conds:List PathCond} {apart fresh handsOn:Bool} {tb:TypeId}
 (own:ownKnob C.prog.godebug=none) (started:os.Started) (Rz:C.prog.inits.idxOf? f=none) (hfn:C.prog.funcs[f]?=some fn)
 (witness:∃ (w:World) (tape:Tape) (i:Input),w.os=os∧(w.forCall tape i).Shaped C.prog∧i.vars=[]∧Input.okWide C.prog (w.forCall tape i) .any w.heap.size f i ∧
  s.pre6 enc C.prog fn conds apart (w.forCall tape i).memory i.args∧a.holds C.prog (lone (Frame.enter C.prog f i.args .normal) [] (w.forCall tape i)))
 (hv:s.vars=[]) (hvt:s.plain.varTypes C.prog=[]) (DR:∀ ds:List (DataW H),ds.length=fn.params.toList.length→s.fn H ds={ results:=[.lit (.bool true)],args:=ds })
 (Rx:fn.resultTypes=#[tb]) (L3:C.prog.underlying tb=some .bool) (hl:laidOutB C.prog=true) (hr:∀ t∈fn.params.toList,C.prog.readableRec t=true∧t<C.prog.types.size)
 (walk:∀ (W:World) (vs:List Value),OK C.prog W fn.params.toList vs→Calls C.prog f vs.toArray W fun e w'=>e=.returned (.bool true)∧Below W.heap.size W w') :
 ReturnsInHanded a C os f .any (s.pre6 enc C.prog fn conds apart) (s.post enc C.prog fn apart fresh handsOn false):=by
 refine returnsInHanded_of_change_sized own started Rz hfn witness ?_;intro W base args ds gs before Yl hW _ hwt _;have Yk:=hW;obtain ⟨p,q,hA,hV,rfl,UD,z9⟩:=hW;rw [hv] at hV
 have hg:gs=[]:=by
  cases gs with
  | nil=>rfl
  | cons _ _=>exact hV.elim
 subst hg;rw [hvt,aK,aK] at hwt
 obtain ⟨h1,h2⟩:=IA hA (fun m hm=>by simpa using List.all_eq_true.1 hwt m hm) (fun j t v h3 h4=>Yl j t v (by simpa using h3) (by simpa using h4));refine (walk W args.toList h1).mono fun e W' ⟨he,tg⟩=>?_
 subst he;exact ⟨_,rfl,LZ Yk hv (DR ds h2) Rx L3 hl hr tg⟩
end
end Go.Bs
namespace Go.Bs
theorem xU {L L':List cJ} (h:L.Perm L'):cz L L':=by
 induction h with
 | nil=>exact aX
 | cons _ _ ih=>exact bh ih
 | swap _ _ _=>exact fun _ x=>nN x
 | trans _ _ a b=>exact cj a b
section
variable (P:Program) (N:Fr) (ops:Array Oper) (e:World) (σ0:Env) (L0:List cJ)
end
section
variable {P:Program} {N:Fr} {ops:Array Oper} {e:World} {σ0:Env} {L0:List cJ}
theorem Do.fo {o:Oper} {K:Env→List cJ→Prop} {σ:Env} {L L':List cJ} (f:cz L L') (h:Do P N o K σ e L'):Do P N o K σ e L:=fun a w ha hs=>h a w ha (hs.cL f)
def IB (σ:Env) (a:Act):Prop:=∀ k v,get σ k=some v→a.tmps[k]?=some v
theorem DS {σ τ:Env} {a:Act} (h:IB σ a) (h':IB τ a):IB (σ++τ) a:=by
 induction σ with
 | nil=>exact h'
 | cons x r ih =>
  intro k v hk;obtain ⟨j,u⟩:=x;rw [List.cons_append,fD] at hk
  by_cases hj:j=k
  ·rw [aI hj] at hk
   exact h k v (by rw [fD,aI hj];exact hk)
  ·rw [aB hj] at hk
   cases hr:get r k with
   | some u' =>
    have e1:get (r++τ) k=some u':=by
     clear ih h hk hj
     induction r with
     | nil=>cases hr
     | cons y r Yn =>
      obtain ⟨i,w⟩:=y;rw [List.cons_append,fD];rw [fD] at hr
      split
      ·rename_i hi;rw [aI hi] at hr;exact hr
      ·rename_i hi;rw [aB hi] at hr;exact Yn hr
    rw [e1] at hk;cases hk
    exact h k _ (by rw [fD,aB hj];exact hr)
   | none =>
    have e1:get (r++τ) k=get τ k:=by
     clear ih h hk hj
     induction r with
     | nil=>rfl
     | cons y r Yn =>
      obtain ⟨i,w⟩:=y;rw [List.cons_append,fD];rw [fD] at hr
      split
      ·rename_i hi;rw [aI hi] at hr;cases hr
      ·rename_i hi;rw [aB hi] at hr;exact Yn hr
    rw [e1] at hk
    exact h' k v hk
theorem get_mem {σ:Env} {k:Nat} {v:Value} (h:get σ k=some v):(k,v)∈σ:=by
 induction σ with
 | nil=>cases h
 | cons x r ih =>
  obtain ⟨j,u⟩:=x;rw [fD] at h
  by_cases hj:j=k
  ·subst hj;simp at h;subst h;exact List.mem_cons_self ..
  ·rw [aB hj] at h;exact aT _ (ih h)
def oN (a:Act) (ds:List Nat):Env:=(List.range a.tmps.size).filterMap fun k=>if ds.contains k then none else (a.tmps[k]?).map fun v=>(k,v)
theorem xV {a:Act} {ds:List Nat} {x:Nat × Value} (h:x∈oN a ds):a.tmps[x.1]?=some x.2:=by
 unfold oN at h
 rw [List.mem_filterMap] at h
 obtain ⟨k,_,h⟩:=h
 split at h
 ·cases h
 ·rw [Option.map_eq_some_iff] at h
  obtain ⟨v,h1,rfl⟩:=h;exact h1
theorem DT {a:Act} {ds:List Nat}:IB (oN a ds) a:=fun k v hk=>xV (get_mem hk)
theorem oO {a:Act} {ds:List Nat} {k:Nat} {v:Value} (hk:k ∉ ds) (hv:a.tmps[k]?=some v):get (oN a ds) k=some v:=by
 have hm:(k,v)∈oN a ds:=by
  unfold oN;rw [List.mem_filterMap];refine ⟨k,List.mem_range.2 (Array.getElem?_eq_some_iff.1 hv).1,?_⟩;rw [aB (by simpa using hk),hv]
  rfl
 cases hg:get (oN a ds) k with
 | some u =>
  have:=xV (get_mem hg);dsimp only at this
  rw [hv] at this;exact this.symm
 | none =>
  exfalso
  clear hv
  generalize oN a ds=τ at *
  induction τ with
  | nil=>cases hm
  | cons y r ih =>
   obtain ⟨i,u⟩:=y;rw [fD] at hg
   by_cases hi:i=k
   ·rw [aI hi] at hg;cases hg
   ·rw [aB hi] at hg
    rcases aQ.1 hm with h|h
    ·cases h;exact hi rfl
    ·exact ih h hg
def mark (l:Array Bool):List Nat→Array Bool
 | []=>l
 | i::r=>mark (l.setIfInBounds i true) r
theorem th:∀ (U:List Nat) (l:Array Bool) (i:Nat),(mark l U)[i]?=(l[i]?).map (fun b=>b || U.contains i)
 | [],l,i=>by simp [mark]
 | j::r,l,i=>by
  rw [mark,th r]
  by_cases h:j=i
  ·subst h;rcases Nat.lt_or_ge j l.size with h1|h1
   ·simp [h1]
   ·rw [Array.getElem?_eq_none (by simpa using h1),Array.getElem?_eq_none h1];rfl
  ·rw [Array.getElem?_setIfInBounds_ne h]
   congr 1
   funext b
   have h':¬ i=j:=fun h'=>h h'.symm
   simp [h']
def r7:List Nat→Bool
 | []=>true
 | i::r=>!r.contains i && r7 r
theorem j0:∀ {l:List Nat},r7 l=true→l.Nodup
 | [],_=>List.nodup_nil
 | i::r,h=>by
  simp only [r7,Bool.and_eq_true,Bool.not_eq_true'] at h
  exact List.nodup_cons.2 ⟨by simpa using h.1,j0 h.2⟩
variable {Q:fO} {R0:List cJ} {T:List Nat} {n:Nat} {l0:Array Bool}
end
end Go.Bs
namespace Go.Bs
structure DOp where
 i:Nat
 d:Nat
 kq:List Nat
 ok:Value→Prop
 mem:Value→List cJ
section
variable (P:Program) (N:Fr) (ops:Array Oper) (e:World) (σ0:Env) (L0:List cJ)
def tj (o:Oper):Prop:=o.guard=none∨∃ j want,o.guard=some (j,want)∧p0 σ0 ops j want=some true
end
def qQ (o:Oper) (k:Nat):Bool:=o.after.any fun ed=>Region.binds .any ed && ed.on == k
theorem l6 {o:Oper} {k:Nat} (h:qQ o k=true):∃ ed∈o.after,Region.binds .any ed=true∧ed.on=k:=by
 obtain ⟨ed,h1,h2⟩:=Array.any_eq_true'.1 h;simp only [Bool.and_eq_true,beq_iff_eq] at h2
 exact ⟨ed,h1,h2.1,h2.2⟩
theorem u5:∀ {U W:List Nat},U.Nodup→(∀ i∈U,i∈W)→U.length≤W.length
 | [],W,_,_=>aH _
 | x::r,W,hn,hs=>by
  have h1:=List.nodup_cons.1 hn;have h2:r.length≤(W.erase x).length:=u5 h1.2 fun i hi=>(List.mem_erase_of_ne (by rintro rfl;exact h1.1 hi)).2 (hs i (aT _ hi))
  have h3:=List.length_erase_of_mem (hs x (List.mem_cons_self ..));have h4:=List.length_pos_of_mem (hs x (List.mem_cons_self ..));rw [aN]
  omega
theorem JJ {U W:List Nat} (hn:U.Nodup) (hs:∀ i∈U,i∈W) (hl:W.length≤U.length):∀ i∈W,i∈U:=fun i hi=>by
 refine Classical.byContradiction fun lT=>?_
 have h2:=u5 (W:=W.erase i) hn fun j hj=>(List.mem_erase_of_ne (by rintro rfl;exact lT hj)).2 (hs j hj)
 have h3:=List.length_erase_of_mem hi;have h4:=List.length_pos_of_mem hi
 omega
theorem ku {L0:List cJ}:∀ (L:List cJ),cz (L++L0) L0
 | []=>aX
 | _::L=>cz.drop (ku L)
section
variable {P:Program} {N:Fr} {ops:Array Oper} {e:World} {σ0:Env} {L0:List cJ} {T:List Nat} {R0:List cJ} {n:Nat} {l0:Array Bool} {Q:fO}
end
end Go.Bs
