/- Part 2 of a proof of this: TopLedgers returns true for any arguments; nothing of the old memory is turned. No condition. -/
import Derived.Test.YtccekbdjebohcaaGreatP01
set_option linter.unusedVariables false
set_option linter.unusedSimpArgs false
namespace Go.Bs
class ArrT (P:Program) (t:TypeId) (len:outParam Nat) (el:outParam TypeId) (n:outParam Nat):Prop where
 und:P.underlying t=some (.array len el)
 siz:∀ w,(sizeOf el).run P w=.ok n w
def u32v (a:UInt32):Value:=.int .u32 (a.toNat:Int)
theorem u32v_one (l:List UInt32):∀ c∈l.map u32v,c.oneCell'=true:=fun c hc=>by
 obtain ⟨x,_,rfl⟩:=List.mem_map.1 hc
 rfl
theorem w32 (n:Nat):IntKind.u32.wrap (n:Int)=((n % 4294967296:Nat):Int):=by
 unfold IntKind.wrap;simp only [IntKind.bits,IntKind.signed]
 simp
theorem w8 (n:Nat):IntKind.u8.wrap (n:Int)=((n % 256:Nat):Int):=by
 unfold IntKind.wrap;simp only [IntKind.bits,IntKind.signed]
 simp
theorem u32_add (a b:UInt32):IntKind.u32.wrap ((a.toNat:Int)+(b.toNat:Int))=((a+b).toNat:Int):=by
 rw [← Int.natCast_add,w32,UInt32.toNat_add]
theorem u32_ofInt (a:UInt32):BitVec.ofInt 32 (a.toNat:Int)=a.toBitVec:=by
 apply BitVec.eq_of_toNat_eq
 simp
theorem u32_and (a b:UInt32):Go.bits .and .u32 (a.toNat:Int) (b.toNat:Int)=((a &&& b).toNat:Int):=by
 show IntKind.u32.wrap (((BitVec.ofInt 32 (a.toNat:Int) &&& BitVec.ofInt 32 (b.toNat:Int)).toNat:Nat):Int)=_
 rw [u32_ofInt,u32_ofInt]
 show IntKind.u32.wrap (((a &&& b).toNat:Nat):Int)=_
 rw [w32,Nat.mod_eq_of_lt (a &&& b).toNat_lt]
theorem u32_or (a b:UInt32):Go.bits .or .u32 (a.toNat:Int) (b.toNat:Int)=((a ||| b).toNat:Int):=by
 show IntKind.u32.wrap (((BitVec.ofInt 32 (a.toNat:Int) ||| BitVec.ofInt 32 (b.toNat:Int)).toNat:Nat):Int)=_
 rw [u32_ofInt,u32_ofInt]
 show IntKind.u32.wrap (((a ||| b).toNat:Nat):Int)=_
 rw [w32,Nat.mod_eq_of_lt (a ||| b).toNat_lt]
theorem u32_xor (a b:UInt32):Go.bits .xor .u32 (a.toNat:Int) (b.toNat:Int)=((a ^^^ b).toNat:Int):=by
 show IntKind.u32.wrap (((BitVec.ofInt 32 (a.toNat:Int) ^^^ BitVec.ofInt 32 (b.toNat:Int)).toNat:Nat):Int)=_
 rw [u32_ofInt,u32_ofInt]
 show IntKind.u32.wrap (((a ^^^ b).toNat:Nat):Int)=_
 rw [w32,Nat.mod_eq_of_lt (a ^^^ b).toNat_lt]
theorem u32_shr (a:UInt32) (n:Int) (h:0≤n∧n<32):((a.toNat:Int)).fdiv (2 ^ (min n.toNat 32))=((a >>> UInt32.ofNat n.toNat).toNat:Int):=by
 obtain ⟨m,rfl⟩:=Int.eq_ofNat_of_zero_le h.1;have hm:m<32:=by omega
 rw [UInt32.toNat_shiftRight,Int.toNat_natCast,Nat.min_eq_left (by omega),UInt32.toNat_ofNat_of_lt' (by simp only [UInt32.size];omega),Nat.mod_eq_of_lt hm,Nat.shiftRight_eq_div_pow];rw [Int.fdiv_eq_ediv_of_nonneg _ (Int.pow_nonneg (by decide))]
 simp
theorem u32_shl (a:UInt32) (n:Int) (h:0≤n∧n<32):IntKind.u32.wrap ((a.toNat:Int)*(2 ^ (min n.toNat 32)))=((a <<< UInt32.ofNat n.toNat).toNat:Int):=by
 obtain ⟨m,rfl⟩:=Int.eq_ofNat_of_zero_le h.1;have hm:m<32:=by omega
 rw [UInt32.toNat_shiftLeft,Int.toNat_natCast,Nat.min_eq_left (by omega),UInt32.toNat_ofNat_of_lt' (by simp only [UInt32.size];omega),Nat.mod_eq_of_lt hm,Nat.shiftLeft_eq];rw [show ((a.toNat:Int)*2 ^ m)=((a.toNat*2 ^ m:Nat):Int) by simp,w32]
section
variable {P:Program} {N:Fr} {Q:Goal} {σ:Env} {e:World} {L:List Res} {all:Array Oper} {rest:List Oper}
variable {d:Nat} {op:Op} {ty:TypeId} {pos:String} {af:Array Edge} {gd:Option (Nat × Bool)} {K:Env→List Res→Prop} {x y:Operand} {t t':TypeId} {k k':IntKind} {a b:UInt32}
theorem Val.addU (h:ev σ x=some (u32v a)) (h1:ev σ y=some (u32v b)):Val P N (.binOp .add t x y t') ty (u32v (a+b)) σ e L:=by
 have:=Val.add (P:=P) (N:=N) (ty:=ty) (e:=e) (L:=L) (t:=t) (t':=t') h h1;rw [u32_add] at this
 exact this
theorem Val.xorU (h:ev σ x=some (u32v a)) (h1:ev σ y=some (u32v b)):Val P N (.binOp .xor t x y t') ty (u32v (a ^^^ b)) σ e L:=by
 have:=Val.bits (P:=P) (N:=N) (ty:=ty) (e:=e) (L:=L) (t:=t) (t':=t') .xor (by simp) h h1;rw [u32_xor] at this
 exact this
theorem Val.andU (h:ev σ x=some (u32v a)) (h1:ev σ y=some (u32v b)):Val P N (.binOp .and t x y t') ty (u32v (a &&& b)) σ e L:=by
 have:=Val.bits (P:=P) (N:=N) (ty:=ty) (e:=e) (L:=L) (t:=t) (t':=t') .and (by simp) h h1;rw [u32_and] at this
 exact this
theorem Val.orU (h:ev σ x=some (u32v a)) (h1:ev σ y=some (u32v b)):Val P N (.binOp .or t x y t') ty (u32v (a ||| b)) σ e L:=by
 have:=Val.bits (P:=P) (N:=N) (ty:=ty) (e:=e) (L:=L) (t:=t) (t':=t') .or (by simp) h h1;rw [u32_or] at this
 exact this
theorem Val.shrU {n:Int} (h:ev σ x=some (u32v a)) (h1:ev σ y=some (.int k' n)) (h0:0≤n∧n<32):Val P N (.binOp .shr t x y t') ty (u32v (a >>> UInt32.ofNat n.toNat)) σ e L:=by
 have:=Val.shr (P:=P) (N:=N) (ty:=ty) (e:=e) (L:=L) (t:=t) (t':=t') h h1 h0.1;rw [show IntKind.u32.bits=32 from rfl,u32_shr a n h0] at this
 exact this
theorem Val.shlU {n:Int} (h:ev σ x=some (u32v a)) (h1:ev σ y=some (.int k' n)) (h0:0≤n∧n<32):Val P N (.binOp .shl t x y t') ty (u32v (a <<< UInt32.ofNat n.toNat)) σ e L:=by
 have:=Val.shl (P:=P) (N:=N) (ty:=ty) (e:=e) (L:=L) (t:=t) (t':=t') h h1 h0.1;rw [show IntKind.u32.bits=32 from rfl,u32_shl a n h0] at this
 exact this
theorem Val.compU (h:ev σ x=some (u32v a)):Val P N (.unOp .xor t x) ty (u32v (~~~a)) σ e L:=fun b w ha _ _ _ _ _=>by
 have h1:=u32_xor (UInt32.ofNat 4294967295) a
 have h2:UInt32.ofNat 4294967295 ^^^ a = ~~~a:=by
  apply UInt32.eq_of_toBitVec_eq;rw [UInt32.toBitVec_xor,UInt32.toBitVec_not,← BitVec.allOnes_xor]
  rfl
 rw [h2] at h1
 have h3:IntKind.u32.max=((UInt32.ofNat 4294967295).toNat:Int):=rfl;simp only [execOp,ha.ev h,u32v,Op.unary,IntKind.signed,Bool.false_eq_true,if_false,h3,intBits_xor,h1]
 simp
theorem Val.neg {m:Int} (h:ev σ x=some (.int k m)):Val P N (.unOp .neg t x) ty (.int k (k.wrap (0 - m))) σ e L:=fun b w ha _ _ _ _ _=>by
 simp [execOp,ha.ev h,Op.unary,Op.intArith]
theorem Val.convU8 {s:TypeId} [i:IntT P s .u32] [j:IntT P t .u8] (h:ev σ x=some (u32v a)):Val P N (.convert s t x) ty (u8 a.toUInt8) σ e L:=by
 have:=Val.convInt (P:=P) (N:=N) (ty:=ty) (e:=e) (L:=L) (s:=s) (t:=t) h
 rw [w8] at this
 exact this
theorem Val.conv8U {s:TypeId} [i:IntT P s .u8] [j:IntT P t .u32] {c:UInt8} (h:ev σ x=some (u8 c)):Val P N (.convert s t x) ty (u32v c.toUInt32) σ e L:=by
 have:=Val.convInt (P:=P) (N:=N) (ty:=ty) (e:=e) (L:=L) (s:=s) (t:=t) h
 rw [w32,Nat.mod_eq_of_lt (by have:=c.toNat_lt;omega)] at this
 exact this
theorem Val.indexAddrA {len el n g o:Nat} {i:Int} [s:ArrT P t len el n] (h:ev σ x=some (.pointer (some ⟨g,o,none⟩))) (h1:ev σ y=some (.int k i)) (h0:0≤i∧i<len) :
 Val P N (.indexAddr t x y) ty (.pointer (some ⟨g,o+i.toNat*n,none⟩)) σ e L:=fun a w ha _ _ _ _ _=>by
 have h2:¬ (i<0):=by omega
 simp [execOp,ha.ev h,ha.ev h1,Instr.indexAt,run_underlying s.und,asIntOf,h0.1,h0.2,s.siz,Instr.sureAddr,Addr.add_lit]
theorem Val.indexAddrA1 {len el g o i:Nat} [s:ArrT P t len el 1] (h:ev σ x=some (.pointer (some ⟨g,o,none⟩))) (h1:ev σ y=some (.int k (i:Int))) (h0:i<len) :
 Val P N (.indexAddr t x y) ty (.pointer (some ⟨g,o+i,none⟩)) σ e L:=by
 have:=Val.indexAddrA (P:=P) (N:=N) (ty:=ty) (e:=e) (L:=L) (t:=t) h h1 ⟨by omega,by omega⟩
 simpa using this
theorem Val.indexA {len el i:Nat} {cs:List Value} {v:Value} [s:ArrT P t len el 1] [q:PlainT P el] (h:ev σ x=some (.agg cs.toArray)) (h1:ev σ y=some (.int k (i:Int))) (h0:i<len) (hv:cs[i]?=some v) :
 Val P N (.index t x y) ty v σ e L:=fun a w ha _ _ _ _ _=>by
 have hc:(cs.toArray)[i]?=some v:=by simpa using hv
 simp [execOp,ha.ev h,ha.ev h1,Instr.index,run_underlying s.und,asIntOf,h0,s.siz,part,q.ag,hv]
theorem Val.buildArr {len el n:Nat} {z:Value} {parts:List (Nat × Operand)} {vs:List (Nat × Value)} {cs:List Value} [s:ArrT P t len el n] [j:ZeroT P t z] (h:evp σ parts=some vs) (hlen:vs.length=len) (hz:z.cells.size=len*n) (hc:Parts n 0 vs cs) :
 Val P N (.build t parts.toArray) ty (.agg cs.toArray) σ e L:=fun a w ha _ _ _ _ _=>by
 have hpv:(parts.toArray.map fun x=>match x with|(i,x)=>(i,a.eval x)).toList=vs:=by
  have:=ha.evp h
  simpa using this
 have hf:=hc.fill z.cells (by rw [Nat.zero_add,hlen];exact hz);simp only [Nat.zero_mul,List.take_zero,List.nil_append] at hf
 have h3:(Instr.build t (parts.toArray.map fun x=>match x with|(i,x)=>(i,a.eval x))).run P w=.ok (.agg cs.toArray) w:=by
  unfold Instr.build;rw [hpv];simp only [Sem.run_bind,j.run,Result.andThen_ok,run_underlying s.und,s.siz,hf]
  rfl
 simp only [execOp,Sem.run_bind,Sem.run_pure,h3,Result.andThen_ok]
theorem O.addU (h:ev σ x=some (u32v a)) (h1:ev σ y=some (u32v b)) (hd:Nat.blt d N.n=true) (kk:O P N all rest Q ((d,u32v (a+b))::σ) e L):O P N all (⟨some d,.binOp .add t x y t',ty,pos,af,none⟩::rest) Q σ e L:=O.val _ (Val.addU h h1) hd kk
theorem O.xorU (h:ev σ x=some (u32v a)) (h1:ev σ y=some (u32v b)) (hd:Nat.blt d N.n=true) (kk:O P N all rest Q ((d,u32v (a ^^^ b))::σ) e L):O P N all (⟨some d,.binOp .xor t x y t',ty,pos,af,none⟩::rest) Q σ e L:=O.val _ (Val.xorU h h1) hd kk
theorem O.andU (h:ev σ x=some (u32v a)) (h1:ev σ y=some (u32v b)) (hd:Nat.blt d N.n=true) (kk:O P N all rest Q ((d,u32v (a &&& b))::σ) e L):O P N all (⟨some d,.binOp .and t x y t',ty,pos,af,none⟩::rest) Q σ e L:=O.val _ (Val.andU h h1) hd kk
theorem O.orU (h:ev σ x=some (u32v a)) (h1:ev σ y=some (u32v b)) (hd:Nat.blt d N.n=true) (kk:O P N all rest Q ((d,u32v (a ||| b))::σ) e L):O P N all (⟨some d,.binOp .or t x y t',ty,pos,af,none⟩::rest) Q σ e L:=O.val _ (Val.orU h h1) hd kk
theorem O.shrU {n:Int} (h:ev σ x=some (u32v a)) (h1:ev σ y=some (.int k' n)) (h0:0≤n∧n<32) (hd:Nat.blt d N.n=true) (kk:O P N all rest Q ((d,u32v (a >>> UInt32.ofNat n.toNat))::σ) e L):O P N all (⟨some d,.binOp .shr t x y t',ty,pos,af,none⟩::rest) Q σ e L:=O.val _ (Val.shrU h h1 h0) hd kk
theorem O.shlU {n:Int} (h:ev σ x=some (u32v a)) (h1:ev σ y=some (.int k' n)) (h0:0≤n∧n<32) (hd:Nat.blt d N.n=true) (kk:O P N all rest Q ((d,u32v (a <<< UInt32.ofNat n.toNat))::σ) e L):O P N all (⟨some d,.binOp .shl t x y t',ty,pos,af,none⟩::rest) Q σ e L:=O.val _ (Val.shlU h h1 h0) hd kk
theorem O.compU (h:ev σ x=some (u32v a)) (hd:Nat.blt d N.n=true) (kk:O P N all rest Q ((d,u32v (~~~a))::σ) e L):O P N all (⟨some d,.unOp .xor t x,ty,pos,af,none⟩::rest) Q σ e L:=O.val _ (Val.compU h) hd kk
theorem O.neg {m:Int} (h:ev σ x=some (.int k m)) (hd:Nat.blt d N.n=true) (kk:O P N all rest Q ((d,.int k (k.wrap (0 - m)))::σ) e L):O P N all (⟨some d,.unOp .neg t x,ty,pos,af,none⟩::rest) Q σ e L:=O.val _ (Val.neg h) hd kk
theorem O.convU8 {s:TypeId} [i:IntT P s .u32] [j:IntT P t .u8] (h:ev σ x=some (u32v a)) (hd:Nat.blt d N.n=true) (kk:O P N all rest Q ((d,u8 a.toUInt8)::σ) e L):O P N all (⟨some d,.convert s t x,ty,pos,af,none⟩::rest) Q σ e L:=O.val _ (Val.convU8 h) hd kk
theorem O.conv8U {s:TypeId} [i:IntT P s .u8] [j:IntT P t .u32] {c:UInt8} (h:ev σ x=some (u8 c)) (hd:Nat.blt d N.n=true) (kk:O P N all rest Q ((d,u32v c.toUInt32)::σ) e L):O P N all (⟨some d,.convert s t x,ty,pos,af,none⟩::rest) Q σ e L:=O.val _ (Val.conv8U h) hd kk
theorem O.indexAddrA1 {len el g o i:Nat} [s:ArrT P t len el 1] (h:ev σ x=some (.pointer (some ⟨g,o,none⟩))) (h1:ev σ y=some (.int k (i:Int))) (h0:i<len) (hd:Nat.blt d N.n=true) (kk:O P N all rest Q ((d,.pointer (some ⟨g,o+i,none⟩))::σ) e L):O P N all (⟨some d,.indexAddr t x y,ty,pos,af,none⟩::rest) Q σ e L:=O.val _ (Val.indexAddrA1 h h1 h0) hd kk
theorem O.indexAddrA {len el n g o:Nat} {i:Int} [s:ArrT P t len el n] (h:ev σ x=some (.pointer (some ⟨g,o,none⟩))) (h1:ev σ y=some (.int k i)) (h0:0≤i∧i<len) (hd:Nat.blt d N.n=true) (kk:O P N all rest Q ((d,.pointer (some ⟨g,o+i.toNat*n,none⟩))::σ) e L):O P N all (⟨some d,.indexAddr t x y,ty,pos,af,none⟩::rest) Q σ e L:=O.val _ (Val.indexAddrA h h1 h0) hd kk
theorem O.indexA {len el i:Nat} {cs:List Value} {v:Value} [s:ArrT P t len el 1] [q:PlainT P el] (h:ev σ x=some (.agg cs.toArray)) (h1:ev σ y=some (.int k (i:Int))) (h0:i<len) (hv:cs[i]?=some v) (hd:Nat.blt d N.n=true) (kk:O P N all rest Q ((d,v)::σ) e L):O P N all (⟨some d,.index t x y,ty,pos,af,none⟩::rest) Q σ e L:=O.val _ (Val.indexA h h1 h0 hv) hd kk
theorem O.buildArr {len el n:Nat} {z:Value} {parts:List (Nat × Operand)} {vs:List (Nat × Value)} {cs:List Value} [s:ArrT P t len el n] [j:ZeroT P t z] (h:evp σ parts=some vs) (hlen:vs.length=len) (hz:z.cells.size=len*n) (hc:Parts n 0 vs cs) (hd:Nat.blt d N.n=true) (kk:O P N all rest Q ((d,.agg cs.toArray)::σ) e L):O P N all (⟨some d,.build t parts.toArray,ty,pos,af,none⟩::rest) Q σ e L:=O.val _ (Val.buildArr h hlen hz hc) hd kk
theorem A.of_sep {ops:Array Oper} {T:List Nat} {R0:List Res} {n:Nat} {l:Array Bool} {p:Prop} (f:∀ h,sepL L h→p) (h:p→A P N ops T R0 n l Q σ e L):A P N ops T R0 n l Q σ e L:=fun a w ha hs=>h (f _ hs.2.2.2) a w ha hs
theorem Do.make0 {el nn b c:Nat} {z:Value} {k1 k2:IntKind} [i:SlT P t el nn] [j:ElT P el z nn b] (hx:ev σ x=some (.int k1 0)) (hy:ev σ y=some (.int k2 (c:Int))) (hd:Nat.blt d N.n=true) (h63:c≤maxLen) (hb:c*b≤140737488355328)
 (kk:∀ g,K ((d,.slice (some ⟨g,0,none⟩) 0 c)::σ) (Own el nn (.slice (some ⟨g,0,none⟩) 0 c) 0 []::L)) :
 Do P N ⟨some d,.makeSlice t x y,ty,pos,af,gd⟩ K σ e L:=fun a w ha hs K' Q' hK=>by
 obtain ⟨ti,t1,t2,t3,t4⟩:=j.parts;subst t3 t4
 have hb':(ti.bytes:Int)*(c:Int)≤281474976710656:=by
  have h:((ti.bytes*c:Nat):Int)≤281474976710656:=by rw [Nat.mul_comm];omega
  rwa [Int.natCast_mul] at h
 have hr:=run_make (P:=P) w t el ti z i.und t1 t2 k1 k2 0 c (Int.le_refl _) (by omega) hb' (by simp only [maxLen] at h63;omega);simp only [Int.toNat_natCast,Int.toNat_zero] at hr
 refine upon_ok_do (w':=w.alloc (.cells (madeCells z.cells (c*ti.size)) el)) (v:=.slice (some ⟨w.heap.size,0,none⟩) 0 c) (by simp [execOp,ha.ev hx,ha.ev hy,hr]) (hK _ _ _ _ (kk _) (ha.put hd _) ?_);have hs3:=(hs.alloc (.cells (madeCells z.cells (c*ti.size)) el)).ent (blk_arr _ _ _ _);have hin:=own_in (E:=el) (n:=ti.size) (g:=w.heap.size) (k:=0) (cap:=c) (cur:=(madeCells z.cells (c*ti.size)).toList) (R:=L) (Nat.zero_le _) h63 (by simp [size_madeCells]);rw [Nat.zero_mul,List.take_zero] at hin
 exact hs3.ent hin
end
end Go.Bs
namespace Go.Bs
section
variable {P:Program} {N:Fr} {Q:Goal} {σ:Env} {e:World} {L:List Res} {all:Array Oper} {rest:List Oper}
variable {d:Nat} {op:Op} {ty:TypeId} {pos:String} {af:Array Edge} {gd:Option (Nat × Bool)} {K:Env→List Res→Prop} {x y z:Operand} {v:Value} {t t':TypeId} {k k':IntKind} {m n:Int} {a b:UInt32}
theorem Za  (kk:O P N all rest Q ((d,v)::σ) e L) (h:ev σ x=some v:=by exact rfl) (hd:Nat.blt d N.n=true:=by exact rfl):O P N all (⟨some d,.move x,ty,pos,af,none⟩::rest) Q σ e L:=O.move h hd kk
theorem Zb  (kk:O P N all rest Q ((d,v)::σ) e L) (h:ev σ x=some v:=by exact rfl) (hd:Nat.blt d N.n=true:=by exact rfl):O P N all (⟨some d,.assign x,ty,pos,af,none⟩::rest) Q σ e L:=O.assign h hd kk
theorem Zc {x y:Code} (h:W P N x (thenQ (Next P N y Q) Q) σ e L) :W P N (.seq x y) Q σ e L:=W.seq h
theorem Zd {id:Nat} {l:List Oper} (h:O P N l.toArray l Q σ e L) :W P N (.region id l.toArray false) Q σ e L:=W.region h
theorem Ze  (h:Fin Q .normal σ e L) :O P N all [] Q σ e L:=O.nil h
theorem Zf {y:Code} {Q1:Goal} (h:W P N y Q1 σ e L) :Fin (thenQ (Next P N y Q1) Q) .normal σ e L:=Fin.next h
theorem Zg {p:Addr} (kk:O P N all rest Q ((d,.pointer (some p))::σ) e L) (h:ev σ x=some (.pointer (some p)):=by exact rfl) (hd:Nat.blt d N.n=true:=by exact rfl):O P N all (⟨some d,.nilCheck x,ty,pos,af,none⟩::rest) Q σ e L:=O.nilCheck h hd kk
theorem Zh {s f off g o:Nat} [i:FieldT P s f off] (kk:O P N all rest Q ((d,.pointer (some ⟨g,o+off,none⟩))::σ) e L) (h:ev σ x=some (.pointer (some ⟨g,o,none⟩)):=by exact rfl) (hd:Nat.blt d N.n=true:=by exact rfl):O P N all (⟨some d,.fieldAddr s x f,ty,pos,af,none⟩::rest) Q σ e L:=O.fieldAddr h hd kk
theorem Zi {p:Addr} [i:PlainT P t] (kk:O P N all rest Q ((d,v)::σ) e L) (h:ev σ x=some (.pointer (some p)):=by exact rfl) (r:Rd L p v:=by (repeat first|exact Rd.blk .zero rfl|assumption|apply Rd.tail);done) (hd:Nat.blt d N.n=true:=by exact rfl):O P N all (⟨some d,.load t x,ty,pos,af,none⟩::rest) Q σ e L:=O.load h r hd kk
theorem Zj {n g o:Nat} {cs:List Value} [i:AggT P t n] (kk:O P N all rest Q ((d,.agg cs.toArray)::σ) e L) (h:ev σ x=some (.pointer (some ⟨g,o,none⟩)):=by exact rfl) (r:RdA L g o cs:=by (repeat first|exact RdA.whole .zero|assumption|apply RdA.tail);done) (hl:cs.length=n:=by exact rfl) (hd:Nat.blt d N.n=true:=by exact rfl):O P N all (⟨some d,.load t x,ty,pos,af,none⟩::rest) Q σ e L:=O.loadAggR h r hl hd kk
theorem Zk {el n l c:Nat} {ad:Option Addr} {ats:List TypeId} [i:SlT P t el n] (kk:O P N all rest Q ((d,.int .i64 (l:Int))::σ) e L) (h:ev σ x=some (.slice ad l c):=by exact rfl) (hd:Nat.blt d N.n=true:=by exact rfl):O P N all (⟨some d,.call { callee:=.builtin .len,args:=#[x],argTypes:=(t::ats).toArray },ty,pos,af,none⟩::rest) Q σ e L:=O.len h hd kk
theorem Zl  (kk:O P N all rest Q ((d,v)::σ) e L) (h:ev σ x=some (.bool true):=by exact rfl) (h1:ev σ y=some v:=by exact rfl) (hd:Nat.blt d N.n=true:=by exact rfl):O P N all (⟨some d,.pick x y z,ty,pos,af,none⟩::rest) Q σ e L:=O.pick_t h h1 hd kk
theorem Zm  (kk:O P N all rest Q ((d,v)::σ) e L) (h:ev σ x=some (.bool false):=by exact rfl) (h1:ev σ z=some v:=by exact rfl) (hd:Nat.blt d N.n=true:=by exact rfl):O P N all (⟨some d,.pick x y z,ty,pos,af,none⟩::rest) Q σ e L:=O.pick_f h h1 hd kk
theorem Zn {dst:Option Tmp} {j:Nat} {want:Bool} (k:O P N all (⟨dst,op,ty,pos,af,none⟩::rest) Q σ e L) (h:wants σ all j want=some true:=by exact rfl):O P N all (⟨dst,op,ty,pos,af,some (j,want)⟩::rest) Q σ e L:=O.want h k
theorem Zo {j:Nat} {want:Bool} (k:O P N all rest Q ((d,undef)::σ) e L) (h:wants σ all j want=some false:=by exact rfl) (hd:Nat.blt d N.n=true:=by exact rfl):O P N all (⟨some d,op,ty,pos,af,some (j,want)⟩::rest) Q σ e L:=O.unwant h hd k
theorem Zq {el:TypeId} {p:Addr} [i:PtrT P t el] (kk:O P N all rest Q ((d,.bool false)::σ) e L) (h:ev σ x=some (.pointer (some p)):=by exact rfl) (h1:ev σ y=some (.pointer none):=by exact rfl) (hd:Nat.blt d N.n=true:=by exact rfl):O P N all (⟨some d,.binOp .eql t x y t',ty,pos,af,none⟩::rest) Q σ e L:=O.eqlPtrS h h1 hd kk
theorem Zs {el n l c:Nat} {p:Addr} [i:SlT P t el n] (kk:O P N all rest Q ((d,.bool false)::σ) e L) (h:ev σ x=some (.slice (some p) l c):=by exact rfl) (h1:ev σ y=some (.slice none 0 0):=by exact rfl) (hd:Nat.blt d N.n=true:=by exact rfl):O P N all (⟨some d,.binOp .eql t x y t',ty,pos,af,none⟩::rest) Q σ e L:=O.eqlSlS h h1 hd kk
theorem Zt {el n l c:Nat} [i:SlT P t el n] (kk:O P N all rest Q ((d,.bool true)::σ) e L) (h:ev σ x=some (.slice none l c):=by exact rfl) (h1:ev σ y=some (.slice none 0 0):=by exact rfl) (hd:Nat.blt d N.n=true:=by exact rfl):O P N all (⟨some d,.binOp .eql t x y t',ty,pos,af,none⟩::rest) Q σ e L:=O.eqlSlN h h1 hd kk
theorem Zu {el:TypeId} {p:Addr} [i:PtrT P t el] (kk:O P N all rest Q ((d,.bool true)::σ) e L) (h:ev σ x=some (.pointer (some p)):=by exact rfl) (h1:ev σ y=some (.pointer none):=by exact rfl) (hd:Nat.blt d N.n=true:=by exact rfl):O P N all (⟨some d,.binOp .neq t x y t',ty,pos,af,none⟩::rest) Q σ e L:=O.neqPtrS h h1 hd kk
theorem Zy  (kk:O P N all rest Q ((d,.bool false)::σ) e L) (h:ev σ x=some (.bool true):=by exact rfl) (hd:Nat.blt d N.n=true:=by exact rfl):O P N all (⟨some d,.unOp .not t x,ty,pos,af,none⟩::rest) Q σ e L:=O.not_t h hd kk
theorem Zz  (kk:O P N all rest Q ((d,.bool true)::σ) e L) (h:ev σ x=some (.bool false):=by exact rfl) (hd:Nat.blt d N.n=true:=by exact rfl):O P N all (⟨some d,.unOp .not t x,ty,pos,af,none⟩::rest) Q σ e L:=O.not_f h hd kk
theorem ZA  (kk:O P N all rest Q ((d,.bool true)::σ) e L) (h:ev σ x=some (.int k m):=by exact rfl) (h1:ev σ y=some (.int k n):=by exact rfl) (hp:m<n:=by omega) (hd:Nat.blt d N.n=true:=by exact rfl):O P N all (⟨some d,.binOp .lss t x y t',ty,pos,af,none⟩::rest) Q σ e L:=O.lss_t h h1 hp hd kk
theorem ZB  (kk:O P N all rest Q ((d,.bool false)::σ) e L) (h:ev σ x=some (.int k m):=by exact rfl) (h1:ev σ y=some (.int k n):=by exact rfl) (hp:¬ (m<n):=by omega) (hd:Nat.blt d N.n=true:=by exact rfl):O P N all (⟨some d,.binOp .lss t x y t',ty,pos,af,none⟩::rest) Q σ e L:=O.lss_f h h1 hp hd kk
theorem ZC  (k1:m<n→O P N all rest Q ((d,.bool true)::σ) e L) (k2:¬ (m<n)→O P N all rest Q ((d,.bool false)::σ) e L) (h:ev σ x=some (.int k m):=by exact rfl) (h1:ev σ y=some (.int k n):=by exact rfl) (hd:Nat.blt d N.n=true:=by exact rfl):O P N all (⟨some d,.binOp .lss t x y t',ty,pos,af,none⟩::rest) Q σ e L:=O.lss_d h h1 hd k1 k2
theorem ZD  (kk:O P N all rest Q ((d,.bool true)::σ) e L) (h:ev σ x=some (.int k m):=by exact rfl) (h1:ev σ y=some (.int k n):=by exact rfl) (hp:m≤n:=by omega) (hd:Nat.blt d N.n=true:=by exact rfl):O P N all (⟨some d,.binOp .leq t x y t',ty,pos,af,none⟩::rest) Q σ e L:=O.leq_t h h1 hp hd kk
theorem ZE  (kk:O P N all rest Q ((d,.bool false)::σ) e L) (h:ev σ x=some (.int k m):=by exact rfl) (h1:ev σ y=some (.int k n):=by exact rfl) (hp:¬ (m≤n):=by omega) (hd:Nat.blt d N.n=true:=by exact rfl):O P N all (⟨some d,.binOp .leq t x y t',ty,pos,af,none⟩::rest) Q σ e L:=O.leq_f h h1 hp hd kk
theorem ZG  (kk:O P N all rest Q ((d,.bool true)::σ) e L) (h:ev σ x=some (.int k m):=by exact rfl) (h1:ev σ y=some (.int k n):=by exact rfl) (hp:n<m:=by omega) (hd:Nat.blt d N.n=true:=by exact rfl):O P N all (⟨some d,.binOp .gtr t x y t',ty,pos,af,none⟩::rest) Q σ e L:=O.gtr_t h h1 hp hd kk
theorem ZH  (kk:O P N all rest Q ((d,.bool false)::σ) e L) (h:ev σ x=some (.int k m):=by exact rfl) (h1:ev σ y=some (.int k n):=by exact rfl) (hp:¬ (n<m):=by omega) (hd:Nat.blt d N.n=true:=by exact rfl):O P N all (⟨some d,.binOp .gtr t x y t',ty,pos,af,none⟩::rest) Q σ e L:=O.gtr_f h h1 hp hd kk
theorem ZI  (k1:n<m→O P N all rest Q ((d,.bool true)::σ) e L) (k2:¬ (n<m)→O P N all rest Q ((d,.bool false)::σ) e L) (h:ev σ x=some (.int k m):=by exact rfl) (h1:ev σ y=some (.int k n):=by exact rfl) (hd:Nat.blt d N.n=true:=by exact rfl):O P N all (⟨some d,.binOp .gtr t x y t',ty,pos,af,none⟩::rest) Q σ e L:=O.gtr_d h h1 hd k1 k2
theorem ZJ  (kk:O P N all rest Q ((d,.bool true)::σ) e L) (h:ev σ x=some (.int k m):=by exact rfl) (h1:ev σ y=some (.int k n):=by exact rfl) (hp:n≤m:=by omega) (hd:Nat.blt d N.n=true:=by exact rfl):O P N all (⟨some d,.binOp .geq t x y t',ty,pos,af,none⟩::rest) Q σ e L:=O.geq_t h h1 hp hd kk
theorem ZK  (kk:O P N all rest Q ((d,.bool false)::σ) e L) (h:ev σ x=some (.int k m):=by exact rfl) (h1:ev σ y=some (.int k n):=by exact rfl) (hp:¬ (n≤m):=by omega) (hd:Nat.blt d N.n=true:=by exact rfl):O P N all (⟨some d,.binOp .geq t x y t',ty,pos,af,none⟩::rest) Q σ e L:=O.geq_f h h1 hp hd kk
theorem ZM  (kk:O P N all rest Q ((d,.bool true)::σ) e L) (h:ev σ x=some (.int k m):=by exact rfl) (h1:ev σ y=some (.int k n):=by exact rfl) (hp:m=n:=by omega) (hd:Nat.blt d N.n=true:=by exact rfl):O P N all (⟨some d,.binOp .eql t x y t',ty,pos,af,none⟩::rest) Q σ e L:=O.eql_t h h1 hp hd kk
theorem ZN  (kk:O P N all rest Q ((d,.bool false)::σ) e L) (h:ev σ x=some (.int k m):=by exact rfl) (h1:ev σ y=some (.int k n):=by exact rfl) (hp:¬ (m=n):=by omega) (hd:Nat.blt d N.n=true:=by exact rfl):O P N all (⟨some d,.binOp .eql t x y t',ty,pos,af,none⟩::rest) Q σ e L:=O.eql_f h h1 hp hd kk
theorem ZO  (k1:m=n→O P N all rest Q ((d,.bool true)::σ) e L) (k2:¬ (m=n)→O P N all rest Q ((d,.bool false)::σ) e L) (h:ev σ x=some (.int k m):=by exact rfl) (h1:ev σ y=some (.int k n):=by exact rfl) (hd:Nat.blt d N.n=true:=by exact rfl):O P N all (⟨some d,.binOp .eql t x y t',ty,pos,af,none⟩::rest) Q σ e L:=O.eql_d h h1 hd k1 k2
theorem ZP  (kk:O P N all rest Q ((d,.bool true)::σ) e L) (h:ev σ x=some (.int k m):=by exact rfl) (h1:ev σ y=some (.int k n):=by exact rfl) (hp:m≠n:=by omega) (hd:Nat.blt d N.n=true:=by exact rfl):O P N all (⟨some d,.binOp .neq t x y t',ty,pos,af,none⟩::rest) Q σ e L:=O.neq_t h h1 hp hd kk
theorem ZQ  (kk:O P N all rest Q ((d,.bool false)::σ) e L) (h:ev σ x=some (.int k m):=by exact rfl) (h1:ev σ y=some (.int k n):=by exact rfl) (hp:¬ (m≠n):=by omega) (hd:Nat.blt d N.n=true:=by exact rfl):O P N all (⟨some d,.binOp .neq t x y t',ty,pos,af,none⟩::rest) Q σ e L:=O.neq_f h h1 hp hd kk
theorem ZS  (kk:O P N all rest Q ((d,.int .i64 (m+n))::σ) e L) (h:ev σ x=some (.int .i64 m):=by exact rfl) (h1:ev σ y=some (.int .i64 n):=by exact rfl) (hb:-9223372036854775808≤m+n∧m+n≤9223372036854775807:=by omega) (hd:Nat.blt d N.n=true:=by exact rfl):O P N all (⟨some d,.binOp .add t x y t',ty,pos,af,none⟩::rest) Q σ e L:=O.add64 h h1 hb hd kk
theorem ZU  (kk:O P N all rest Q ((d,.int .i64 (m - n))::σ) e L) (h:ev σ x=some (.int .i64 m):=by exact rfl) (h1:ev σ y=some (.int .i64 n):=by exact rfl) (hb:-9223372036854775808≤m - n∧m - n≤9223372036854775807:=by omega) (hd:Nat.blt d N.n=true:=by exact rfl):O P N all (⟨some d,.binOp .sub t x y t',ty,pos,af,none⟩::rest) Q σ e L:=O.sub64 h h1 hb hd kk
theorem ZV  (kk:O P N all rest Q ((d,.int k (k.wrap (m - n)))::σ) e L) (h:ev σ x=some (.int k m):=by exact rfl) (h1:ev σ y=some (.int k n):=by exact rfl) (hd:Nat.blt d N.n=true:=by exact rfl):O P N all (⟨some d,.binOp .sub t x y t',ty,pos,af,none⟩::rest) Q σ e L:=O.sub h h1 hd kk
theorem ZW  (kk:O P N all rest Q ((d,.int .i64 (m*n))::σ) e L) (h:ev σ x=some (.int .i64 m):=by exact rfl) (h1:ev σ y=some (.int .i64 n):=by exact rfl) (hb:-9223372036854775808≤m*n∧m*n≤9223372036854775807:=by omega) (hd:Nat.blt d N.n=true:=by exact rfl):O P N all (⟨some d,.binOp .mul t x y t',ty,pos,af,none⟩::rest) Q σ e L:=O.mul64 h h1 hb hd kk
theorem ZX  (kk:O P N all rest Q ((d,.int k (k.wrap (m*n)))::σ) e L) (h:ev σ x=some (.int k m):=by exact rfl) (h1:ev σ y=some (.int k n):=by exact rfl) (hd:Nat.blt d N.n=true:=by exact rfl):O P N all (⟨some d,.binOp .mul t x y t',ty,pos,af,none⟩::rest) Q σ e L:=O.mul h h1 hd kk
theorem ZY {s:TypeId} [i:IntT P s k] [j:IntT P t k'] (kk:O P N all rest Q ((d,.int k' m)::σ) e L) (h:ev σ x=some (.int k m):=by exact rfl) (hw:k'.wrap m=m:=by (first|exact wrap_i64 (by omega) (by omega)|exact wrap_u32 (by omega) (by omega)|exact wrap_u8 (by omega) (by omega))) (hd:Nat.blt d N.n=true:=by exact rfl):O P N all (⟨some d,.convert s t x,ty,pos,af,none⟩::rest) Q σ e L:=O.convIntE h hw hd kk
theorem ZZ {s:TypeId} [i:IntT P s k] [j:IntT P t k'] (kk:O P N all rest Q ((d,.int k' (k'.wrap m))::σ) e L) (h:ev σ x=some (.int k m):=by exact rfl) (hd:Nat.blt d N.n=true:=by exact rfl):O P N all (⟨some d,.convert s t x,ty,pos,af,none⟩::rest) Q σ e L:=O.convInt h hd kk
theorem Z0  (kk:O P N all rest Q ((d,.int k (k.wrap (m*2 ^ (min n.toNat k.bits))))::σ) e L) (h:ev σ x=some (.int k m):=by exact rfl) (h1:ev σ y=some (.int k' n):=by exact rfl) (h0:0≤n:=by omega) (hd:Nat.blt d N.n=true:=by exact rfl):O P N all (⟨some d,.binOp .shl t x y t',ty,pos,af,none⟩::rest) Q σ e L:=O.shl h h1 h0 hd kk
theorem Z1  (kk:O P N all rest Q ((d,.int k (m.fdiv (2 ^ (min n.toNat k.bits))))::σ) e L) (h:ev σ x=some (.int k m):=by exact rfl) (h1:ev σ y=some (.int k' n):=by exact rfl) (h0:0≤n:=by omega) (hd:Nat.blt d N.n=true:=by exact rfl):O P N all (⟨some d,.binOp .shr t x y t',ty,pos,af,none⟩::rest) Q σ e L:=O.shr h h1 h0 hd kk
theorem Z2  (kk:O P N all rest Q ((d,.int k (Go.bits .and k m n))::σ) e L) (h:ev σ x=some (.int k m):=by exact rfl) (h1:ev σ y=some (.int k n):=by exact rfl) (hd:Nat.blt d N.n=true:=by exact rfl):O P N all (⟨some d,.binOp .and t x y t',ty,pos,af,none⟩::rest) Q σ e L:=O.and h h1 hd kk
theorem Z3  (kk:O P N all rest Q ((d,.int k (Go.bits .or k m n))::σ) e L) (h:ev σ x=some (.int k m):=by exact rfl) (h1:ev σ y=some (.int k n):=by exact rfl) (hd:Nat.blt d N.n=true:=by exact rfl):O P N all (⟨some d,.binOp .or t x y t',ty,pos,af,none⟩::rest) Q σ e L:=O.or h h1 hd kk
theorem Z6 {T el n:Nat} {l:List UInt8} [i:SlT P t el n] [j:IntT P el .u8] [s:StrT P T] (kk:O P N all rest Q ((d,.string (str l))::σ) e L) (h:ev σ x=some v:=by exact rfl) (r:RdB L v l:=by (repeat first|exact RdSl.own .zero|exact RdSl.view .zero|assumption|apply RdB.tail);done) (hd:Nat.blt d N.n=true:=by exact rfl):O P N all (⟨some d,.convert t T x,ty,pos,af,none⟩::rest) Q σ e L:=O.bytes h r hd kk
theorem Z7 {a b:List UInt8} (kk:O P N all rest Q ((d,.bool true)::σ) e L) (h:ev σ x=some (.string (str a)):=by exact rfl) (h1:ev σ y=some (.string (str b)):=by exact rfl) (hp:a=b:=by (first|exact rfl|assumption)) (hd:Nat.blt d N.n=true:=by exact rfl):O P N all (⟨some d,.binOp .eql t x y t',ty,pos,af,none⟩::rest) Q σ e L:=O.eqlStr_t h h1 hp hd kk
theorem Z8 {a b:List UInt8} (kk:O P N all rest Q ((d,.bool false)::σ) e L) (h:ev σ x=some (.string (str a)):=by exact rfl) (h1:ev σ y=some (.string (str b)):=by exact rfl) (hp:¬ (a=b):=by assumption) (hd:Nat.blt d N.n=true:=by exact rfl):O P N all (⟨some d,.binOp .eql t x y t',ty,pos,af,none⟩::rest) Q σ e L:=O.eqlStr_f h h1 hp hd kk
theorem Yd {g off:Nat} {cs cs':List Value} {T:TypeId} {L':List Res} [i:PlainT P t] (kk:O P N all rest Q σ e L') (h:ev σ x=some (.pointer (some ⟨g,off,none⟩)):=by exact rfl) (h1:ev σ y=some v:=by exact rfl) (hv:v.oneCell'=true:=by (first|exact rfl|assumption)) (u:Upd L (Blk g cs T (0,0)) (Blk g cs' T (0,0)) L':=by (repeat first|exact Upd.zero|apply Upd.succ);done) (hset:SetAt cs off v cs':=by (repeat first|exact SetAt.zero|apply SetAt.succ);done):O P N all (⟨none,.store t x y,ty,pos,af,none⟩::rest) Q σ e L:=O.store h h1 hv u hset kk
theorem Ye {places:Array (Nat × Nat)} {z:Array Value} {cells:List Value} {parts:List (Nat × Operand)} {vs:List (Nat × Value)} [i:BuildT P t places z] (kk:O P N all rest Q ((d,.agg cells.toArray)::σ) e L) (h:evp σ parts=some vs:=by exact rfl) (hc:Instr.fill (places[·]?) z vs=some cells.toArray:=by (simp [Instr.fill,Value.cells];rfl)) (hd:Nat.blt d N.n=true:=by exact rfl):O P N all (⟨some d,.build t parts.toArray,ty,pos,af,none⟩::rest) Q σ e L:=O.build h hc hd kk
theorem Yf {el n g o l c:Nat} {cs:List Value} {T:TypeId} {L':List Res} [i:SlT P t el n] [j:IntT P el .u8] (kk:O P N all rest Q ((d,.slice (some ⟨g,o,none⟩) l c)::σ) e L') (hx:ev σ x=some (.slice (some ⟨g,o,none⟩) l c):=by exact rfl) (u:Upd L (Blk g cs T (0,0)) (Blk g cs T (cs.length,cs.length+1)) L':=by (repeat first|exact Upd.zero|apply Upd.succ);done) (hd:Nat.blt d N.n=true:=by exact rfl):O P N all (⟨some d,.convert t t x,ty,pos,af,none⟩::rest) Q σ e L:=O.convSl hx u hd kk
theorem Yg {cs:List Value} (kk:∀ g,O P N all rest Q ((d,.pointer (some ⟨g,0,none⟩))::σ) e (Blk g cs t (0,0)::L)) (h:ev σ x=some v:=by exact rfl) (hc:v.cells=cs.toArray:=by exact rfl) (hd:Nat.blt d N.n=true:=by exact rfl):O P N all (⟨some d,.box t x,ty,pos,af,none⟩::rest) Q σ e L:=O.box h hc hd kk
theorem Yh {z:Value} {cs:List Value} [i:ZeroT P t z] (kk:∀ g,O P N all rest Q ((d,.pointer (some ⟨g,0,none⟩))::σ) e (Blk g cs t (0,0)::L)) (hc:z.cells=cs.toArray:=by exact rfl) (hd:Nat.blt d N.n=true:=by exact rfl):O P N all (⟨some d,.alloc t,ty,pos,af,none⟩::rest) Q σ e L:=O.alloc hc hd kk
theorem Yi {el n len b:Nat} {z:Value} {parts:List (Nat × Operand)} {vs:List (Nat × Value)} {cs:List Value} [i:SlT P t el n] [j:ElT P el z n b] (kk:∀ g,O P N all rest Q ((d,.slice (some ⟨g,0,none⟩) len len)::σ) e (Blk g cs el (0,0)::L)) (h:evp σ parts=some vs:=by exact rfl) (hn:Nat.ble (len*n) 16777216=true:=by exact rfl) (hlen:vs.length=len:=by exact rfl) (hc:Parts n 0 vs cs:=by (repeat first|exact Bs.Parts.nil|apply Bs.Parts.one rfl rfl|apply Bs.Parts.one (Bs.cells_one (by assumption)) rfl|(apply Bs.Parts.agg;exact rfl));done) (hz:z.cells.size=n:=by exact rfl) (hd:Nat.blt d N.n=true:=by exact rfl):O P N all (⟨some d,.buildSlice t len parts.toArray,ty,pos,af,none⟩::rest) Q σ e L:=O.buildSlice h hn hlen hc hz hd kk
theorem Ym {s:ByteArray} {ats:List TypeId} [i:StrT P t] (kk:O P N all rest Q ((d,.int .i64 (s.size:Int))::σ) e L) (h:ev σ x=some (.string s):=by exact rfl) (hd:Nat.blt d N.n=true:=by exact rfl):O P N all (⟨some d,.call { callee:=.builtin .len,args:=#[x],argTypes:=(t::ats).toArray },ty,pos,af,none⟩::rest) Q σ e L:=O.lenS h hd kk
theorem Yr {el n l c:Nat} {ad:Option Addr} {i:Int} [s:SlT P t el n] (kk:O P N all rest Q ((d,.slice ad i.toNat c)::σ) e L) (h:ev σ x=some (.slice ad l c):=by exact rfl) (h1:ev σ y=some (.int k i):=by exact rfl) (h0:0≤i:=by omega) (hl:i≤c:=by omega) (hd:Nat.blt d N.n=true:=by exact rfl):O P N all (⟨some d,.slice t x none (some y) none,ty,pos,af,none⟩::rest) Q σ e L:=O.sliceHi h h1 h0 hl hd kk
theorem Ys {el n l c:Nat} {ad:Option Addr} {i:Int} [s:SlT P t el n] (kk:O P N all rest Q ((d,.slice (cutAt ad c i.toNat n) (l - i.toNat) (c - i.toNat))::σ) e L) (h:ev σ x=some (.slice ad l c):=by exact rfl) (h1:ev σ y=some (.int k i):=by exact rfl) (h0:0≤i:=by omega) (hl:i≤l:=by omega) (hd:Nat.blt d N.n=true:=by exact rfl):O P N all (⟨some d,.slice t x (some y) none none,ty,pos,af,none⟩::rest) Q σ e L:=O.sliceLo h h1 h0 hl hd kk
theorem Yt {el n l c:Nat} {ad:Option Addr} {i j:Int} [s:SlT P t el n] (kk:O P N all rest Q ((d,.slice (cutAt ad c i.toNat n) (j.toNat - i.toNat) (c - i.toNat))::σ) e L) (h:ev σ x=some (.slice ad l c):=by exact rfl) (h1:ev σ y=some (.int k i):=by exact rfl) (h2:ev σ z=some (.int k' j):=by exact rfl) (h0:0≤i:=by omega) (hl:i≤j:=by omega) (hj:j≤c:=by omega) (hd:Nat.blt d N.n=true:=by exact rfl):O P N all (⟨some d,.slice t x (some y) (some z) none,ty,pos,af,none⟩::rest) Q σ e L:=O.sliceLoHi h h1 h2 h0 hl hj hd kk
theorem Yu {ats:Array TypeId} (kk:O P N all rest Q ((d,.int k (if n > m then n else m))::σ) e L) (h:ev σ x=some (.int k m):=by exact rfl) (h1:ev σ y=some (.int k' n):=by exact rfl) (hd:Nat.blt d N.n=true:=by exact rfl):O P N all (⟨some d,.call { callee:=.builtin .max,args:=#[x,y],argTypes:=ats },ty,pos,af,none⟩::rest) Q σ e L:=O.max h h1 hd kk
theorem Yw {el l c g o i:Nat} [s:SlT P t el 1] (kk:O P N all rest Q ((d,.pointer (some ⟨g,o+i,none⟩))::σ) e L) (h:ev σ x=some (.slice (some ⟨g,o,none⟩) l c):=by exact rfl) (h1:ev σ y=some (.int k (i:Int)):=by exact rfl) (hl:i<l:=by omega) (hd:Nat.blt d N.n=true:=by exact rfl):O P N all (⟨some d,.indexAddr t x y,ty,pos,af,none⟩::rest) Q σ e L:=O.indexAddr1 h h1 hl hd kk
theorem Yx {el n l c g o i:Nat} [s:SlT P t el n] (kk:O P N all rest Q ((d,.pointer (some ⟨g,o+i*n,none⟩))::σ) e L) (h:ev σ x=some (.slice (some ⟨g,o,none⟩) l c):=by exact rfl) (h1:ev σ y=some (.int k (i:Int)):=by exact rfl) (hl:i<l:=by omega) (hd:Nat.blt d N.n=true:=by exact rfl):O P N all (⟨some d,.indexAddr t x y,ty,pos,af,none⟩::rest) Q σ e L:=O.indexAddrN h h1 hl hd kk
theorem Yy {el n l c g o:Nat} {i:Int} [s:SlT P t el n] (kk:O P N all rest Q ((d,.pointer (some ⟨g,o+i.toNat*n,none⟩))::σ) e L) (h:ev σ x=some (.slice (some ⟨g,o,none⟩) l c):=by exact rfl) (h1:ev σ y=some (.int k i):=by exact rfl) (h0:0≤i:=by omega) (hl:i<l:=by omega) (hd:Nat.blt d N.n=true:=by exact rfl):O P N all (⟨some d,.indexAddr t x y,ty,pos,af,none⟩::rest) Q σ e L:=O.indexAddr h h1 h0 hl hd kk
theorem Yz {c:Operand} {x y:Code} (ht:W P N x Q σ e L) (hc:ev σ c=some (.bool true):=by exact rfl):W P N (.cond c x y) Q σ e L:=W.cond_t hc ht
theorem YA {c:Operand} {x y:Code} (hf:W P N y Q σ e L) (hc:ev σ c=some (.bool false):=by exact rfl):W P N (.cond c x y) Q σ e L:=W.cond_f hc hf
theorem YB {id:Nat} {c:Code} (h:W P N c (blockQ id Q) σ e L) :W P N (.block id c) Q σ e L:=W.block h
theorem YC  (h:Fin Q .normal σ e L) :W P N .skip Q σ e L:=W.skip h
theorem YD {id:Nat} (h:Fin Q (.exit id) σ e L) :W P N (.exit id) Q σ e L:=W.exit h
theorem YE  (h:Fin Q .ret σ e L) :W P N .ret Q σ e L:=W.ret h
theorem YF {K:Env→World→Prop} (h:Fin Q .ret σ e L) :Fin (thenQ K Q) .ret σ e L:=Fin.then_ret h
theorem YG {K:Env→World→Prop} {i:Nat} (h:Fin Q (.exit i) σ e L) :Fin (thenQ K Q) (.exit i) σ e L:=Fin.then_exit h
theorem YH {id:Nat} (h:Fin Q .normal σ e L) :Fin (blockQ id Q) .normal σ e L:=Fin.block_normal h
theorem YI {id:Nat} (h:Fin Q .ret σ e L) :Fin (blockQ id Q) .ret σ e L:=Fin.block_ret h
theorem YJ {id:Nat} (h:Fin Q .normal σ e L) :Fin (blockQ id Q) (.exit id) σ e L:=Fin.block_hit h
theorem YK {id i:Nat} (h:Fin Q (.exit i) σ e L) (hi:Nat.beq i id=false:=by exact rfl):Fin (blockQ id Q) (.exit i) σ e L:=Fin.block_miss hi h
theorem YL  (kk:O P N all rest Q ((d,.int k (m.tmod n))::σ) e L) (h:ev σ x=some (.int k m):=by exact rfl) (h1:ev σ y=some (.int k n):=by exact rfl) (h0:n≠0:=by omega) (hd:Nat.blt d N.n=true:=by exact rfl):O P N all (⟨some d,.binOp .rem t x y t',ty,pos,af,none⟩::rest) Q σ e L:=O.rem h h1 h0 hd kk
theorem YM  (kk:O P N all rest Q ((d,.int k (k.wrap (m.tdiv n)))::σ) e L) (h:ev σ x=some (.int k m):=by exact rfl) (h1:ev σ y=some (.int k n):=by exact rfl) (h0:n≠0:=by omega) (hd:Nat.blt d N.n=true:=by exact rfl):O P N all (⟨some d,.binOp .quo t x y t',ty,pos,af,none⟩::rest) Q σ e L:=O.quo h h1 h0 hd kk
theorem YN {vs:List Value} {i:Nat} (kk:O P N all rest Q ((d,v)::σ) e L) (h:ev σ x=some (.tuple vs.toArray):=by exact rfl) (hv:nth vs i=some v:=by exact rfl) (hd:Nat.blt d N.n=true:=by exact rfl):O P N all (⟨some d,.extract x i,ty,pos,af,none⟩::rest) Q σ e L:=O.extract h hv hd kk
theorem YP {f:FuncId} {xs ys:List Operand} {us vs:List Value} (kk:O P N all rest Q ((d,.func (.func f) us.toArray vs.toArray)::σ) e L) (h:evs σ xs=some us:=by exact rfl) (h1:evs σ ys=some vs:=by exact rfl) (hd:Nat.blt d N.n=true:=by exact rfl):O P N all (⟨some d,.makeFunc (.func f) xs.toArray ys.toArray,ty,pos,af,none⟩::rest) Q σ e L:=O.makeFunc h h1 hd kk
theorem YQ {g c kk nn off:Nat} {E:TypeId} {xs:List Value} {R:List Res} [i:PlainT P t] (k:O P N all rest Q σ e (Own E nn (.slice (some ⟨g,0,none⟩) kk c) kk (xs.set off v)::R)) (h:ev σ x=some (.pointer (some ⟨g,off,none⟩)):=by exact rfl) (h1:ev σ y=some v:=by exact rfl) (hv:v.oneCell'=true:=by (first|exact rfl|assumption)) (p:Pull L (Own E nn (.slice (some ⟨g,0,none⟩) kk c) kk xs) R:=by (repeat first|exact Pull.zero|apply Pull.succ);done) (ho:off<kk*nn:=by omega):O P N all (⟨none,.store t x y,ty,pos,af,none⟩::rest) Q σ e L:=O.storeOwn h h1 hv p ho k
theorem YR {nn g off:Nat} {vs cs cs':List Value} {T:TypeId} {L':List Res} [i:AggT P t nn] (kk:O P N all rest Q σ e L') (h:ev σ x=some (.pointer (some ⟨g,off,none⟩)):=by exact rfl) (h1:ev σ y=some (.agg vs.toArray):=by exact rfl) (hn:vs.length=nn:=by exact rfl) (hv:∀ v∈vs,v.oneCell'=true:=by (repeat first|exact one_nil|(apply one_cons;first|exact rfl|assumption));done) (u:Upd L (Blk g cs T (0,0)) (Blk g cs' T (0,0)) L':=by (repeat first|exact Upd.zero|apply Upd.succ);done) (hset:SetAts cs off vs cs':=by (repeat first|exact SetAts.nil|apply SetAts.cons|exact SetAt.zero|apply SetAt.succ);done):O P N all (⟨none,.store t x y,ty,pos,af,none⟩::rest) Q σ e L:=O.storeAgg h h1 hn hv u hset kk
theorem YT  (kk:O P N all rest Q ((d,u32v (a+b))::σ) e L) (h:ev σ x=some (u32v a):=by exact rfl) (h1:ev σ y=some (u32v b):=by exact rfl) (hd:Nat.blt d N.n=true:=by exact rfl):O P N all (⟨some d,.binOp .add t x y t',ty,pos,af,none⟩::rest) Q σ e L:=O.addU h h1 hd kk
theorem YU  (kk:O P N all rest Q ((d,u32v (a &&& b))::σ) e L) (h:ev σ x=some (u32v a):=by exact rfl) (h1:ev σ y=some (u32v b):=by exact rfl) (hd:Nat.blt d N.n=true:=by exact rfl):O P N all (⟨some d,.binOp .and t x y t',ty,pos,af,none⟩::rest) Q σ e L:=O.andU h h1 hd kk
theorem YV  (kk:O P N all rest Q ((d,u32v (a ||| b))::σ) e L) (h:ev σ x=some (u32v a):=by exact rfl) (h1:ev σ y=some (u32v b):=by exact rfl) (hd:Nat.blt d N.n=true:=by exact rfl):O P N all (⟨some d,.binOp .or t x y t',ty,pos,af,none⟩::rest) Q σ e L:=O.orU h h1 hd kk
theorem YW  (kk:O P N all rest Q ((d,u32v (a ^^^ b))::σ) e L) (h:ev σ x=some (u32v a):=by exact rfl) (h1:ev σ y=some (u32v b):=by exact rfl) (hd:Nat.blt d N.n=true:=by exact rfl):O P N all (⟨some d,.binOp .xor t x y t',ty,pos,af,none⟩::rest) Q σ e L:=O.xorU h h1 hd kk
theorem YX {n:Int} (kk:O P N all rest Q ((d,u32v (a <<< UInt32.ofNat n.toNat))::σ) e L) (h:ev σ x=some (u32v a):=by exact rfl) (h1:ev σ y=some (.int k' n):=by exact rfl) (h0:0≤n∧n<32:=by omega) (hd:Nat.blt d N.n=true:=by exact rfl):O P N all (⟨some d,.binOp .shl t x y t',ty,pos,af,none⟩::rest) Q σ e L:=O.shlU h h1 h0 hd kk
theorem YY {n:Int} (kk:O P N all rest Q ((d,u32v (a >>> UInt32.ofNat n.toNat))::σ) e L) (h:ev σ x=some (u32v a):=by exact rfl) (h1:ev σ y=some (.int k' n):=by exact rfl) (h0:0≤n∧n<32:=by omega) (hd:Nat.blt d N.n=true:=by exact rfl):O P N all (⟨some d,.binOp .shr t x y t',ty,pos,af,none⟩::rest) Q σ e L:=O.shrU h h1 h0 hd kk
theorem YZ  (kk:O P N all rest Q ((d,u32v (~~~a))::σ) e L) (h:ev σ x=some (u32v a):=by exact rfl) (hd:Nat.blt d N.n=true:=by exact rfl):O P N all (⟨some d,.unOp .xor t x,ty,pos,af,none⟩::rest) Q σ e L:=O.compU h hd kk
theorem Y0 {s:TypeId} [i:IntT P s .u32] [j:IntT P t .u8] (kk:O P N all rest Q ((d,u8 a.toUInt8)::σ) e L) (h:ev σ x=some (u32v a):=by exact rfl) (hd:Nat.blt d N.n=true:=by exact rfl):O P N all (⟨some d,.convert s t x,ty,pos,af,none⟩::rest) Q σ e L:=O.convU8 h hd kk
theorem Y1 {s:TypeId} [i:IntT P s .u8] [j:IntT P t .u32] {c:UInt8} (kk:O P N all rest Q ((d,u32v c.toUInt32)::σ) e L) (h:ev σ x=some (u8 c):=by exact rfl) (hd:Nat.blt d N.n=true:=by exact rfl):O P N all (⟨some d,.convert s t x,ty,pos,af,none⟩::rest) Q σ e L:=O.conv8U h hd kk
theorem Y2 {len el g o i:Nat} [s:ArrT P t len el 1] (kk:O P N all rest Q ((d,.pointer (some ⟨g,o+i,none⟩))::σ) e L) (h:ev σ x=some (.pointer (some ⟨g,o,none⟩)):=by exact rfl) (h1:ev σ y=some (.int k (i:Int)):=by exact rfl) (h0:i<len:=by omega) (hd:Nat.blt d N.n=true:=by exact rfl):O P N all (⟨some d,.indexAddr t x y,ty,pos,af,none⟩::rest) Q σ e L:=O.indexAddrA1 h h1 h0 hd kk
theorem Y3 {len el n g o:Nat} {i:Int} [s:ArrT P t len el n] (kk:O P N all rest Q ((d,.pointer (some ⟨g,o+i.toNat*n,none⟩))::σ) e L) (h:ev σ x=some (.pointer (some ⟨g,o,none⟩)):=by exact rfl) (h1:ev σ y=some (.int k i):=by exact rfl) (h0:0≤i∧i<len:=by omega) (hd:Nat.blt d N.n=true:=by exact rfl):O P N all (⟨some d,.indexAddr t x y,ty,pos,af,none⟩::rest) Q σ e L:=O.indexAddrA h h1 h0 hd kk
theorem Y4 {len el i:Nat} {cs:List Value} {v:Value} [s:ArrT P t len el 1] [q:PlainT P el] (kk:O P N all rest Q ((d,v)::σ) e L) (h:ev σ x=some (.agg cs.toArray):=by exact rfl) (h1:ev σ y=some (.int k (i:Int)):=by exact rfl) (h0:i<len:=by omega) (hv:cs[i]?=some v:=by (first|assumption|exact rfl)) (hd:Nat.blt d N.n=true:=by exact rfl):O P N all (⟨some d,.index t x y,ty,pos,af,none⟩::rest) Q σ e L:=O.indexA h h1 h0 hv hd kk
theorem Y5 {len el n:Nat} {z:Value} {parts:List (Nat × Operand)} {vs:List (Nat × Value)} {cs:List Value} [s:ArrT P t len el n] [j:ZeroT P t z] (kk:O P N all rest Q ((d,.agg cs.toArray)::σ) e L) (h:evp σ parts=some vs:=by exact rfl) (hlen:vs.length=len:=by exact rfl) (hz:z.cells.size=len*n:=by exact rfl) (hc:Parts n 0 vs cs:=by (repeat first|exact Bs.Parts.nil|apply Bs.Parts.one rfl rfl|apply Bs.Parts.one (Bs.cells_one (by assumption)) rfl|(apply Bs.Parts.agg;exact rfl));done) (hd:Nat.blt d N.n=true:=by exact rfl):O P N all (⟨some d,.build t parts.toArray,ty,pos,af,none⟩::rest) Q σ e L:=O.buildArr h hlen hz hc hd kk
end
end Go.Bs
namespace Go.Bs
abbrev pt (g:Nat):Value:=.pointer (some ⟨g,0,none⟩)
abbrev nY:Value:=.slice none 0 0
theorem zE {L L':List Res} (h:Ent L L':=by ((repeat first|exact Ent.rfl|exact Ent.nil|refine Ent.cons ?_|(apply Ent.pull;exact (by (repeat first|exact Pull.zero|apply Pull.succ);done))|refine Ent.drop ?_);done)):Ent L L':=h
theorem zP {L R:List Res} {A:Res} (h:Pull L A R:=by ((repeat first|exact Pull.zero|apply Pull.succ);done)):Pull L A R:=h
theorem zR {L:List Res} {p:Addr} {v:Value} (h:Rd L p v:=by ((repeat first|exact Rd.blk .zero rfl|assumption|apply Rd.tail);done)):Rd L p v:=h
theorem zA {L:List Res} {g o:Nat} {cs:List Value} (h:RdA L g o cs:=by ((repeat first|exact RdA.whole .zero|assumption|apply RdA.tail);done)):RdA L g o cs:=h
theorem zB {L:List Res} {v:Value} {l:List UInt8} (h:RdB L v l:=by ((repeat first|exact RdSl.own .zero|exact RdSl.view .zero|assumption|apply RdB.tail);done)):RdB L v l:=h
theorem zL {L:List Res} {n k:Nat} {v:Value} {xs:List Value} (h:RdSl L n v k xs:=by ((repeat first|exact RdSl.own .zero|assumption|apply RdSl.tail);done)):RdSl L n v k xs:=h
theorem zS {σ σ':Env} (h:∀ k v,get σ' k=some v→get σ k=some v:=by ((repeat first|exact sub_nil|refine sub_cons rfl ?_);done)):∀ k v,get σ' k=some v→get σ k=some v:=h
theorem zO {l:List Value} (h:∀ v∈l,v.oneCell'=true:=by ((repeat first|exact one_nil|(apply one_cons;first|exact rfl|assumption));done)):∀ v∈l,v.oneCell'=true:=h
theorem zU {L L':List Res} {A A':Res} (h:Upd L A A' L':=by ((repeat first|exact Upd.zero|apply Upd.succ);done)):Upd L A A' L':=h
theorem zK {α:Sort _} {a b:α} (h:a=b:=by kernel_rfl):a=b:=h
theorem zI {α:Sort _} {a b:α} (h:a=b:=by (first|(simp only [Nat.zero_add,Nat.add_zero,Nat.reduceAdd,List.drop_succ_cons,List.drop_zero,List.take_succ_cons,List.take_zero];done)|(simp only [Nat.zero_add,Nat.add_zero,Nat.reduceAdd,List.drop_succ_cons,List.drop_zero,List.take_succ_cons,List.take_zero];exact rfl))):a=b:=h
theorem zX {α:Sort _} {a b:α} (h:a=b:=by exact rfl):a=b:=h
theorem zo {p:Prop} (h:p:=by omega):p:=h
theorem zT {cs cs':List Value} {n:Nat} {v:Value} (h:SetAt cs n v cs':=by ((repeat first|exact SetAt.zero|apply SetAt.succ);done)):SetAt cs n v cs':=h
theorem zW {cs cs' vs:List Value} {n:Nat} (h:SetAts cs n vs cs':=by ((repeat first|exact SetAts.nil|apply SetAts.cons|exact SetAt.zero|apply SetAt.succ);done)):SetAts cs n vs cs':=h
theorem zQ {n i:Nat} {vs:List (Nat × Value)} {cs:List Value} (h:Bs.Parts n i vs cs:=by ((repeat first|exact Bs.Parts.nil|apply Bs.Parts.one rfl rfl|apply Bs.Parts.one (Bs.cells_one (by assumption)) rfl|(apply Bs.Parts.agg;exact rfl));done)):Bs.Parts n i vs cs:=h
theorem zF {α:Sort _} {a b:α} (h:a=b:=by (first|(simp [Instr.fill,Value.cells];done)|(simp [Instr.fill,Value.cells];rfl))):a=b:=h
theorem zn {p:Prop} (h:p:=by (first|omega|assumption|exact fun h=>h rfl)):p:=h
theorem zy {p:Prop} (h:p:=by (first|omega|assumption|rfl)):p:=h
theorem zw {a b:Int} (h:a=b:=by (first|exact wrap_i64 (by omega) (by omega)|exact wrap_u32 (by omega) (by omega)|exact wrap_u8 (by omega) (by omega))):a=b:=h
theorem zm {p:Prop} (h:p:=by (simp only [maxLen];omega)):p:=h
theorem zd {p:Prop} (h:p:=by (dsimp only;omega)):p:=h
theorem zl {p:Prop} (h:p:=by simp [maxLen]):p:=h
theorem zV {P:Program} {σ:Env} {L:List Res} {rs:List ResultVar} {vs:List Value} (h:RetL P σ L rs vs:=by ((repeat first|exact RetL.nil|(apply RetL.tmp;exact rfl)|(apply RetL.agg;exact rfl;(focus ((repeat first|exact RdA.whole .zero|assumption|apply RdA.tail);done));exact rfl)|(apply RetL.cell;exact rfl;(focus ((repeat first|exact Rd.blk .zero rfl|assumption|apply Rd.tail);done))));done)):RetL P σ L rs vs:=h
theorem zN {T:List Nat} {l:Array Bool} {C:Prop} (h:unlisted T l=false:=by kernel_rfl):unlisted T l=true→C:=no_held h
structure Bx (p:Prop):Prop where
 out:p
theorem wB {G H:Prop} (h:H) (t:Bx H→G:=by (intro h;(repeat' first|apply Zf|apply Ze|apply Zd|apply Zc|refine Za ?_|refine Zb ?_|apply YE|refine Yz ?_|refine YA ?_|apply YC|refine Zi ?_|refine Zj ?_|refine Zh ?_|apply YF|apply YB|apply YH|apply YI|refine Zk ?_|refine Ym ?_|refine ZA ?_|refine ZB ?_|refine Zn ?_|refine Zo ?_|refine ZS ?_|refine Zg ?_|refine Yd ?_|refine YQ ?_|refine YR ?_|refine Zl ?_|refine Zm ?_|refine Yh ?_|apply YD|apply YG|apply YJ|refine YK ?_|refine Yg ?_|refine YN ?_|refine Yw ?_|refine Yx ?_|refine Yy ?_|refine Zy ?_|refine Zz ?_|refine Ye ?_|refine ZY ?_|refine ZZ ?_|refine Z6 ?_|refine Yf ?_|refine Zu ?_|refine ZP ?_|refine ZQ ?_|refine Yi ?_|refine ZU ?_|refine ZV ?_|refine Zq ?_|refine Zs ?_|refine Zt ?_|refine ZM ?_|refine ZN ?_|refine Z7 ?_|refine Z8 ?_|refine ZJ ?_|refine ZK ?_|refine ZG ?_|refine ZH ?_|refine Z1 ?_|refine ZW ?_|refine ZX ?_|refine Yr ?_|refine Ys ?_|refine Yt ?_|refine YL ?_|refine Z0 ?_|refine Z3 ?_|refine Z2 ?_|refine ZD ?_|refine ZE ?_|refine YP ?_|refine YM ?_|refine Yu ?_|fail);exact h.out)):G:=t ⟨h⟩
theorem wA {G H:Prop} (h:H) (t:Bx H→G:=by (intro h;(first|apply Zf|apply Ze|apply Zd|apply Zc|refine Za ?_|refine Zb ?_|apply YE|refine Yz ?_|refine YA ?_|apply YC|refine Zi ?_|refine Zj ?_|refine Zh ?_|apply YF|apply YB|apply YH|apply YI|refine Zk ?_|refine Ym ?_|refine ZA ?_|refine ZB ?_|refine Zn ?_|refine Zo ?_|refine ZS ?_|refine Zg ?_|refine Yd ?_|refine YQ ?_|refine YR ?_|refine Zl ?_|refine Zm ?_|refine Yh ?_|apply YD|apply YG|apply YJ|refine YK ?_|refine Yg ?_|refine YN ?_|refine Yw ?_|refine Yx ?_|refine Yy ?_|refine Zy ?_|refine Zz ?_|refine Ye ?_|refine ZY ?_|refine ZZ ?_|refine Z6 ?_|refine Yf ?_|refine Zu ?_|refine ZP ?_|refine ZQ ?_|refine Yi ?_|refine ZU ?_|refine ZV ?_|refine Zq ?_|refine Zs ?_|refine Zt ?_|refine ZM ?_|refine ZN ?_|refine Z7 ?_|refine Z8 ?_|refine ZJ ?_|refine ZK ?_|refine ZG ?_|refine ZH ?_|refine Z1 ?_|refine ZW ?_|refine ZX ?_|refine Yr ?_|refine Ys ?_|refine Yt ?_|refine YL ?_|refine Z0 ?_|refine Z3 ?_|refine Z2 ?_|refine ZD ?_|refine ZE ?_|refine YP ?_|refine YM ?_|refine Yu ?_|fail);(repeat' first|apply Zf|apply Ze|apply Zd|apply Zc|refine Za ?_|refine Zb ?_|apply YE|refine Yz ?_|refine YA ?_|apply YC|refine Zi ?_|refine Zj ?_|refine Zh ?_|apply YF|apply YB|apply YH|apply YI|refine Zk ?_|refine Ym ?_|refine ZA ?_|refine ZB ?_|refine Zn ?_|refine Zo ?_|refine ZS ?_|refine Zg ?_|refine Yd ?_|refine YQ ?_|refine YR ?_|refine Zl ?_|refine Zm ?_|refine Yh ?_|apply YD|apply YG|apply YJ|refine YK ?_|refine Yg ?_|refine YN ?_|refine Yw ?_|refine Yx ?_|refine Yy ?_|refine Zy ?_|refine Zz ?_|refine Ye ?_|refine ZY ?_|refine ZZ ?_|refine Z6 ?_|refine Yf ?_|refine Zu ?_|refine ZP ?_|refine ZQ ?_|refine Yi ?_|refine ZU ?_|refine ZV ?_|refine Zq ?_|refine Zs ?_|refine Zt ?_|refine ZM ?_|refine ZN ?_|refine Z7 ?_|refine Z8 ?_|refine ZJ ?_|refine ZK ?_|refine ZG ?_|refine ZH ?_|refine Z1 ?_|refine ZW ?_|refine ZX ?_|refine Yr ?_|refine Ys ?_|refine Yt ?_|refine YL ?_|refine Z0 ?_|refine Z3 ?_|refine Z2 ?_|refine ZD ?_|refine ZE ?_|refine YP ?_|refine YM ?_|refine Yu ?_|fail);exact h.out)):G:=t ⟨h⟩
section
variable {P:Program} {N:Fr} {ops:Array Oper} {T:List Nat} {R0 L:List Res} {n:Nat} {l:Array Bool} {Q:Goal} {σ:Env} {e:World}
variable {d:Nat} {op:Op} {ty:TypeId} {pos:String} {af:Array Edge} {x:Operand} {v:Value} {t:TypeId}
theorem tk (i:Nat) (v:Value) (hi:ops[i]?=some ⟨some d,op,ty,pos,af,none⟩) (hv:Val P N op ty v σ e R0) (k:A P N ops T R0 n (l.setIfInBounds i true) Q ((d,v)::σ) e L)
 (hb:takeB ops T l i=true:=by kernel_rfl) (hL:Ent L R0:=by exact zE) (hd:Nat.blt d N.n=true:=by exact rfl):A P N ops T R0 (n+1) l Q σ e L:=A.take i v hi hb hL hv hd k
theorem tkG (i:Nat) (v:Value) {j:Nat} {want:Bool} (hi:ops[i]?=some ⟨some d,op,ty,pos,af,some (j,want)⟩) (hv:Val P N op ty v σ e R0) (k:A P N ops T R0 n (l.setIfInBounds i true) Q ((d,v)::σ) e L)
 (hg:wants σ ops j want=some true:=by exact rfl) (hb:takeB ops T l i=true:=by kernel_rfl) (hL:Ent L R0:=by exact zE) (hd:Nat.blt d N.n=true:=by exact rfl):A P N ops T R0 (n+1) l Q σ e L:=A.takeG i v hi hg hb hL hv hd k
theorem tM (i:Nat) (k:A P N ops T R0 n (l.setIfInBounds i true) Q ((d,v)::σ) e L) (hi:ops[i]?=some ⟨some d,.move x,ty,pos,af,none⟩:=by exact rfl) (hx:ev σ x=some v:=by exact rfl)
 (hb:takeB ops T l i=true:=by kernel_rfl) (hL:Ent L R0:=by exact zE) (hd:Nat.blt d N.n=true:=by exact rfl):A P N ops T R0 (n+1) l Q σ e L:=A.take i v hi hb hL (Val.move hx) hd k
theorem tA (i:Nat) (k:A P N ops T R0 n (l.setIfInBounds i true) Q ((d,v)::σ) e L) (hi:ops[i]?=some ⟨some d,.assign x,ty,pos,af,none⟩:=by exact rfl) (hx:ev σ x=some v:=by exact rfl)
 (hb:takeB ops T l i=true:=by kernel_rfl) (hL:Ent L R0:=by exact zE) (hd:Nat.blt d N.n=true:=by exact rfl):A P N ops T R0 (n+1) l Q σ e L:=A.take i v hi hb hL (Val.assign hx) hd k
theorem tL (i:Nat) {p:Addr} [j:PlainT P t] (k:A P N ops T R0 n (l.setIfInBounds i true) Q ((d,v)::σ) e L) (hi:ops[i]?=some ⟨some d,.load t x,ty,pos,af,none⟩:=by exact rfl) (hx:ev σ x=some (.pointer (some p)):=by exact rfl) (hr:Rd R0 p v:=by exact zR)
 (hb:takeB ops T l i=true:=by kernel_rfl) (hL:Ent L R0:=by exact zE) (hd:Nat.blt d N.n=true:=by exact rfl):A P N ops T R0 (n+1) l Q σ e L:=A.take i v hi hb hL (Val.load hx hr) hd k
theorem tN (i:Nat) {p:Addr} (k:A P N ops T R0 n (l.setIfInBounds i true) Q ((d,.pointer (some p))::σ) e L) (hi:ops[i]?=some ⟨some d,.nilCheck x,ty,pos,af,none⟩:=by exact rfl) (hx:ev σ x=some (.pointer (some p)):=by exact rfl)
 (hb:takeB ops T l i=true:=by kernel_rfl) (hL:Ent L R0:=by exact zE) (hd:Nat.blt d N.n=true:=by exact rfl):A P N ops T R0 (n+1) l Q σ e L:=A.take i _ hi hb hL (Val.nilCheck hx) hd k
theorem tF (i:Nat) {s f off g o:Nat} [j:FieldT P s f off] (k:A P N ops T R0 n (l.setIfInBounds i true) Q ((d,.pointer (some ⟨g,o+off,none⟩))::σ) e L) (hi:ops[i]?=some ⟨some d,.fieldAddr s x f,ty,pos,af,none⟩:=by exact rfl) (hx:ev σ x=some (.pointer (some ⟨g,o,none⟩)):=by exact rfl)
 (hb:takeB ops T l i=true:=by kernel_rfl) (hL:Ent L R0:=by exact zE) (hd:Nat.blt d N.n=true:=by exact rfl):A P N ops T R0 (n+1) l Q σ e L:=A.take i _ hi hb hL (Val.fieldAddr hx) hd k
theorem tJ (i:Nat) {m g o:Nat} {cs:List Value} [j:AggT P t m] (k:A P N ops T R0 n (l.setIfInBounds i true) Q ((d,.agg cs.toArray)::σ) e L) (hi:ops[i]?=some ⟨some d,.load t x,ty,pos,af,none⟩:=by exact rfl) (hx:ev σ x=some (.pointer (some ⟨g,o,none⟩)):=by exact rfl) (hr:RdA R0 g o cs:=by exact zA) (hl:cs.length=m:=by exact rfl)
 (hb:takeB ops T l i=true:=by kernel_rfl) (hL:Ent L R0:=by exact zE) (hd:Nat.blt d N.n=true:=by exact rfl):A P N ops T R0 (n+1) l Q σ e L:=A.take i _ hi hb hL (Val.loadAggR hx hr hl) hd k
theorem tO (i:Nat) {dst:Option Tmp} (h:Do P N ⟨dst,op,ty,pos,af,none⟩ (fun σ' L'=>(unlisted T (l.setIfInBounds i true)=true→Ent L' R0)∧A P N ops T R0 n (l.setIfInBounds i true) Q σ' e L') σ e L) (hi:ops[i]?=some ⟨dst,op,ty,pos,af,none⟩:=by exact rfl) (hr:((Region.ready .any ops l) == [i])=true:=by kernel_rfl):A P N ops T R0 (n+1) l Q σ e L:=A.one i hi hr h
theorem dV {l':Array Bool} {gd:Option (Nat × Bool)} (h:Val P N op ty v σ e L) (k:A P N ops T R0 n l' Q ((d,v)::σ) e L) (hu:unlisted T l'=false:=by kernel_rfl) (hd:Nat.blt d N.n=true:=by exact rfl) :
 Do P N ⟨some d,op,ty,pos,af,gd⟩ (fun σ' L'=>(unlisted T l'=true→Ent L' R0)∧A P N ops T R0 n l' Q σ' e L') σ e L:=Do.val h hd ⟨no_held hu,k⟩
theorem zg {gd:Option (Nat × Bool)} {K:Env→List Res→Prop} {m g off:Nat} {y:Operand} {vs cs cs':List Value} {E:TypeId} {L':List Res} [i:AggT P t m] (k:K σ L') (h:ev σ x=some (.pointer (some ⟨g,off,none⟩)):=by exact rfl) (h1:ev σ y=some (.agg vs.toArray):=by exact rfl) (hn:vs.length=m:=by exact rfl) (hv:∀ v∈vs,v.oneCell'=true:=by exact zO)
 (u:Upd L (Blk g cs E (0,0)) (Blk g cs' E (0,0)) L':=by exact zU) (hset:SetAts cs off vs cs':=by exact zW):Do P N ⟨none,.store t x y,ty,pos,af,gd⟩ K σ e L:=Do.storeAgg h h1 hn hv u hset k
theorem zs1 {gd:Option (Nat × Bool)} {K:Env→List Res→Prop} {g off:Nat} {y:Operand} {cs cs':List Value} {E:TypeId} {L':List Res} [i:PlainT P t] (k:K σ L') (h:ev σ x=some (.pointer (some ⟨g,off,none⟩)):=by exact rfl) (h1:ev σ y=some v:=by exact rfl) (hv:v.oneCell'=true:=by exact rfl)
 (u:Upd L (Blk g cs E (0,0)) (Blk g cs' E (0,0)) L':=by exact zU) (hset:SetAt cs off v cs':=by exact zT):Do P N ⟨none,.store t x y,ty,pos,af,gd⟩ K σ e L:=Do.store h h1 hv u hset k
end
end Go.Bs
namespace Go.Proofs
open Go.Bs
open Tryz
instance : IntT prog 3 .i64:=⟨underlying3⟩
instance : PlainT prog 3:=⟨isAgg3,sizeOf3⟩
instance : ZeroT prog 3 (.int .i64 0):=⟨zeroValue3⟩
instance : ElT prog 3 (.int .i64 0) 1 8:=⟨by kernel_rfl⟩
instance : PlainT prog 4:=⟨isAgg4,sizeOf4⟩
instance : IntT prog 5 .u8:=⟨underlying5⟩
instance : PlainT prog 5:=⟨isAgg5,sizeOf5⟩
instance : ElT prog 5 (.int .u8 0) 1 1:=⟨by kernel_rfl⟩
instance : StrT prog 9:=⟨underlying9⟩
instance : PlainT prog 9:=⟨isAgg9,sizeOf9⟩
instance : ElT prog 9 (.string ByteArray.empty) 1 16:=⟨by kernel_rfl⟩
instance : SlT prog 22 3 1:=⟨underlying22,sizeOf3⟩
instance : SlT prog 23 4 1:=⟨underlying23,sizeOf4⟩
instance : PtrT prog 24 226:=⟨underlying24⟩
instance : PlainT prog 24:=⟨isAgg24,sizeOf24⟩
instance : ElT prog 24 (.pointer none) 1 8:=⟨by kernel_rfl⟩
instance : PtrT prog 26 143:=⟨underlying26⟩
instance : PlainT prog 26:=⟨isAgg26,sizeOf26⟩
instance : SlT prog 30 5 1:=⟨underlying30,sizeOf5⟩
instance : PlainT prog 30:=⟨isAgg30,sizeOf30⟩
instance : ZeroT prog 30 (.slice none 0 0):=⟨zeroValue30⟩
instance : ElT prog 30 (.slice none 0 0) 1 24:=⟨by kernel_rfl⟩
instance : SlT prog 38 30 1:=⟨underlying38,sizeOf30⟩
instance : PlainT prog 38:=⟨isAgg38,sizeOf38⟩
instance : ElT prog 38 (.slice none 0 0) 1 24:=⟨by kernel_rfl⟩
instance : AggT prog 40 3:=⟨isAgg40,sizeOf40⟩
instance : FieldT prog 40 0 0:=⟨fun _ _ _=>by kernel_rfl⟩
instance : FieldT prog 40 1 1:=⟨fun _ _ _=>by kernel_rfl⟩
instance : FieldT prog 40 2 2:=⟨fun _ _ _=>by kernel_rfl⟩
instance : BuildT prog 40 #[(0,1),(1,1),(2,1)] #[(.int .i64 0),(.int .i64 0),(.slice none 0 0)]:=⟨fun pv cells w h=>by
 simp [Instr.build,zeroValue40,runUnderlying40,Value.cells,sizeOf3,sizeOf38]
 (try simp at h)
 (try simp only [show (ByteArray.empty:ByteArray)=⟨#[]⟩ from rfl] at h)
 simp [h]⟩
instance : ZeroT prog 40 (.agg #[(.int .i64 0),(.int .i64 0),(.slice none 0 0)]):=⟨zeroValue40⟩
instance : AggT prog 47 8:=⟨isAgg47,sizeOf47⟩
instance : FieldT prog 47 0 0:=⟨fun _ _ _=>by kernel_rfl⟩
instance : FieldT prog 47 1 1:=⟨fun _ _ _=>by kernel_rfl⟩
instance : FieldT prog 47 2 2:=⟨fun _ _ _=>by kernel_rfl⟩
instance : FieldT prog 47 3 3:=⟨fun _ _ _=>by kernel_rfl⟩
instance : FieldT prog 47 4 4:=⟨fun _ _ _=>by kernel_rfl⟩
instance : FieldT prog 47 5 5:=⟨fun _ _ _=>by kernel_rfl⟩
instance : FieldT prog 47 6 6:=⟨fun _ _ _=>by kernel_rfl⟩
instance : FieldT prog 47 7 7:=⟨fun _ _ _=>by kernel_rfl⟩
instance : BuildT prog 47 #[(0,1),(1,1),(2,1),(3,1),(4,1),(5,1),(6,1),(7,1)] #[(.int .i64 0),(.int .i64 0),(.int .i64 0),(.int .i64 0),(.int .i64 0),(.int .i64 0),(.int .i64 0),(.string ByteArray.empty)]:=⟨fun pv cells w h=>by
 simp [Instr.build,zeroValue47,runUnderlying47,Value.cells,sizeOf3,sizeOf9]
 (try simp at h)
 (try simp only [show (ByteArray.empty:ByteArray)=⟨#[]⟩ from rfl] at h)
 simp [h]⟩
instance : ZeroT prog 47 (.agg #[(.int .i64 0),(.int .i64 0),(.int .i64 0),(.int .i64 0),(.int .i64 0),(.int .i64 0),(.int .i64 0),(.string ByteArray.empty)]):=⟨zeroValue47⟩
instance : PtrT prog 49 171:=⟨underlying49⟩
instance : PlainT prog 49:=⟨isAgg49,sizeOf49⟩
instance : ZeroT prog 49 (.pointer none):=⟨zeroValue49⟩
instance : AggT prog 53 3:=⟨isAgg53,sizeOf53⟩
instance : FieldT prog 53 1 1:=⟨fun _ _ _=>by kernel_rfl⟩
instance : BuildT prog 53 #[(0,1),(1,1),(2,1)] #[(.int .i64 0),(.int .i64 0),(.int .i64 0)]:=⟨fun pv cells w h=>by
 simp [Instr.build,zeroValue53,runUnderlying53,Value.cells,sizeOf3,sizeOf27]
 (try simp at h)
 (try simp only [show (ByteArray.empty:ByteArray)=⟨#[]⟩ from rfl] at h)
 simp [h]⟩
instance : ZeroT prog 53 (.agg #[(.int .i64 0),(.int .i64 0),(.int .i64 0)]):=⟨zeroValue53⟩
instance : ElT prog 53 (.agg #[(.int .i64 0),(.int .i64 0),(.int .i64 0)]) 3 24:=⟨by kernel_rfl⟩
instance : AggT prog 56 5:=⟨isAgg56,sizeOf56⟩
instance : FieldT prog 56 0 0:=⟨fun _ _ _=>by kernel_rfl⟩
instance : FieldT prog 56 1 1:=⟨fun _ _ _=>by kernel_rfl⟩
instance : FieldT prog 56 4 4:=⟨fun _ _ _=>by kernel_rfl⟩
instance : BuildT prog 56 #[(0,1),(1,1),(2,1),(3,1),(4,1)] #[(.int .i64 0),(.int .i64 0),(.int .i64 0),(.int .i64 0),(.slice none 0 0)]:=⟨fun pv cells w h=>by
 simp [Instr.build,zeroValue56,runUnderlying56,Value.cells,sizeOf3,sizeOf30]
 (try simp at h)
 (try simp only [show (ByteArray.empty:ByteArray)=⟨#[]⟩ from rfl] at h)
 simp [h]⟩
instance : ZeroT prog 56 (.agg #[(.int .i64 0),(.int .i64 0),(.int .i64 0),(.int .i64 0),(.slice none 0 0)]):=⟨zeroValue56⟩
instance : ElT prog 56 (.agg #[(.int .i64 0),(.int .i64 0),(.int .i64 0),(.int .i64 0),(.slice none 0 0)]) 5 56:=⟨by kernel_rfl⟩
instance : SlT prog 57 53 3:=⟨underlying57,sizeOf53⟩
instance : SlT prog 59 56 5:=⟨underlying59,sizeOf56⟩
instance : IntT prog 61 .u32:=⟨underlying61⟩
instance : PlainT prog 61:=⟨isAgg61,sizeOf61⟩
instance : ZeroT prog 61 (.int .u32 0):=⟨zeroValue61⟩
instance : PtrT prog 62 173:=⟨underlying62⟩
instance : PlainT prog 62:=⟨isAgg62,sizeOf62⟩
instance : AggT prog 67 4:=⟨isAgg67,sizeOf67⟩
instance : FieldT prog 67 0 0:=⟨fun _ _ _=>by kernel_rfl⟩
instance : FieldT prog 67 1 1:=⟨fun _ _ _=>by kernel_rfl⟩
instance : FieldT prog 67 2 2:=⟨fun _ _ _=>by kernel_rfl⟩
instance : FieldT prog 67 3 3:=⟨fun _ _ _=>by kernel_rfl⟩
instance : BuildT prog 67 #[(0,1),(1,1),(2,1),(3,1)] #[(.string ByteArray.empty),(.int .u32 0),(.slice none 0 0),(.slice none 0 0)]:=⟨fun pv cells w h=>by
 simp [Instr.build,zeroValue67,runUnderlying67,Value.cells,sizeOf9,sizeOf30,sizeOf61]
 (try simp at h)
 (try simp only [show (ByteArray.empty:ByteArray)=⟨#[]⟩ from rfl] at h)
 simp [h]⟩
instance : ZeroT prog 67 (.agg #[(.string ByteArray.empty),(.int .u32 0),(.slice none 0 0),(.slice none 0 0)]):=⟨zeroValue67⟩
instance : PtrT prog 73 181:=⟨underlying73⟩
instance : PlainT prog 73:=⟨isAgg73,sizeOf73⟩
instance : AggT prog 83 2:=⟨isAgg83,sizeOf83⟩
instance : FieldT prog 83 0 0:=⟨fun _ _ _=>by kernel_rfl⟩
instance : FieldT prog 83 1 1:=⟨fun _ _ _=>by kernel_rfl⟩
instance : BuildT prog 83 #[(0,1),(1,1)] #[(.int .i64 0),(.slice none 0 0)]:=⟨fun pv cells w h=>by
 simp [Instr.build,zeroValue83,runUnderlying83,Value.cells,sizeOf3,sizeOf30]
 (try simp at h)
 (try simp only [show (ByteArray.empty:ByteArray)=⟨#[]⟩ from rfl] at h)
 simp [h]⟩
instance : ZeroT prog 83 (.agg #[(.int .i64 0),(.slice none 0 0)]):=⟨zeroValue83⟩
instance : AggT prog 85 3:=⟨isAgg85,sizeOf85⟩
instance : FieldT prog 85 0 0:=⟨fun _ _ _=>by kernel_rfl⟩
instance : FieldT prog 85 1 1:=⟨fun _ _ _=>by kernel_rfl⟩
instance : FieldT prog 85 2 2:=⟨fun _ _ _=>by kernel_rfl⟩
instance : BuildT prog 85 #[(0,1),(1,1),(2,1)] #[(.int .i64 0),(.slice none 0 0),(.slice none 0 0)]:=⟨fun pv cells w h=>by
 simp [Instr.build,zeroValue85,runUnderlying85,Value.cells,sizeOf3,sizeOf38]
 (try simp at h)
 (try simp only [show (ByteArray.empty:ByteArray)=⟨#[]⟩ from rfl] at h)
 simp [h]⟩
instance : ZeroT prog 85 (.agg #[(.int .i64 0),(.slice none 0 0),(.slice none 0 0)]):=⟨zeroValue85⟩
instance : AggT prog 87 5:=⟨isAgg87,sizeOf87⟩
instance : FieldT prog 87 0 0:=⟨fun _ _ _=>by kernel_rfl⟩
instance : FieldT prog 87 1 2:=⟨fun _ _ _=>by kernel_rfl⟩
instance : BuildT prog 87 #[(0,2),(2,3)] #[(.int .i64 0),(.slice none 0 0),(.int .i64 0),(.slice none 0 0),(.slice none 0 0)]:=⟨fun pv cells w h=>by
 simp [Instr.build,zeroValue87,runUnderlying87,Value.cells,sizeOf83,sizeOf85]
 (try simp at h)
 (try simp only [show (ByteArray.empty:ByteArray)=⟨#[]⟩ from rfl] at h)
 simp [h]⟩
instance : ZeroT prog 87 (.agg #[(.int .i64 0),(.slice none 0 0),(.int .i64 0),(.slice none 0 0),(.slice none 0 0)]):=⟨zeroValue87⟩
instance : SlT prog 90 9 1:=⟨underlying90,sizeOf9⟩
instance : SlT prog 94 96 4:=⟨underlying94,sizeOf96⟩
instance : PlainT prog 94:=⟨isAgg94,sizeOf94⟩
instance : AggT prog 96 4:=⟨isAgg96,sizeOf96⟩
instance : FieldT prog 96 0 0:=⟨fun _ _ _=>by kernel_rfl⟩
instance : FieldT prog 96 1 1:=⟨fun _ _ _=>by kernel_rfl⟩
instance : BuildT prog 96 #[(0,1),(1,3)] #[(.int .i64 0),(.int .i64 0),(.slice none 0 0),(.slice none 0 0)]:=⟨fun pv cells w h=>by
 simp [Instr.build,zeroValue96,runUnderlying96,Value.cells,sizeOf3,sizeOf85]
 (try simp at h)
 (try simp only [show (ByteArray.empty:ByteArray)=⟨#[]⟩ from rfl] at h)
 simp [h]⟩
instance : ZeroT prog 96 (.agg #[(.int .i64 0),(.int .i64 0),(.slice none 0 0),(.slice none 0 0)]):=⟨zeroValue96⟩
instance : ElT prog 96 (.agg #[(.int .i64 0),(.int .i64 0),(.slice none 0 0),(.slice none 0 0)]) 4 64:=⟨by kernel_rfl⟩
instance : PtrT prog 98 194:=⟨underlying98⟩
instance : PlainT prog 98:=⟨isAgg98,sizeOf98⟩
instance : ElT prog 98 (.pointer none) 1 8:=⟨by kernel_rfl⟩
instance : AggT prog 102 3:=⟨isAgg102,sizeOf102⟩
instance : FieldT prog 102 0 0:=⟨fun _ _ _=>by kernel_rfl⟩
instance : FieldT prog 102 1 1:=⟨fun _ _ _=>by kernel_rfl⟩
instance : FieldT prog 102 2 2:=⟨fun _ _ _=>by kernel_rfl⟩
instance : BuildT prog 102 #[(0,1),(1,1),(2,1)] #[(.int .i64 0),(.int .i64 0),(.slice none 0 0)]:=⟨fun pv cells w h=>by
 simp [Instr.build,zeroValue102,runUnderlying102,Value.cells,sizeOf3,sizeOf38]
 (try simp at h)
 (try simp only [show (ByteArray.empty:ByteArray)=⟨#[]⟩ from rfl] at h)
 simp [h]⟩
instance : ZeroT prog 102 (.agg #[(.int .i64 0),(.int .i64 0),(.slice none 0 0)]):=⟨zeroValue102⟩
instance : AggT prog 106 3:=⟨isAgg106,sizeOf106⟩
instance : FieldT prog 106 0 0:=⟨fun _ _ _=>by kernel_rfl⟩
instance : FieldT prog 106 1 1:=⟨fun _ _ _=>by kernel_rfl⟩
instance : FieldT prog 106 2 2:=⟨fun _ _ _=>by kernel_rfl⟩
instance : BuildT prog 106 #[(0,1),(1,1),(2,1)] #[(.slice none 0 0),(.slice none 0 0),(.int .i64 0)]:=⟨fun pv cells w h=>by
 simp [Instr.build,zeroValue106,runUnderlying106,Value.cells,sizeOf3,sizeOf30,sizeOf38]
 (try simp at h)
 (try simp only [show (ByteArray.empty:ByteArray)=⟨#[]⟩ from rfl] at h)
 simp [h]⟩
instance : ZeroT prog 106 (.agg #[(.slice none 0 0),(.slice none 0 0),(.int .i64 0)]):=⟨zeroValue106⟩
instance : AggT prog 109 10:=⟨isAgg109,sizeOf109⟩
instance : FieldT prog 109 0 0:=⟨fun _ _ _=>by kernel_rfl⟩
instance : FieldT prog 109 1 1:=⟨fun _ _ _=>by kernel_rfl⟩
instance : FieldT prog 109 2 4:=⟨fun _ _ _=>by kernel_rfl⟩
instance : FieldT prog 109 3 9:=⟨fun _ _ _=>by kernel_rfl⟩
instance : BuildT prog 109 #[(0,1),(1,3),(4,5),(9,1)] #[(.slice none 0 0),(.int .i64 0),(.int .i64 0),(.slice none 0 0),(.int .i64 0),(.slice none 0 0),(.int .i64 0),(.slice none 0 0),(.slice none 0 0),(.slice none 0 0)]:=⟨fun pv cells w h=>by
 simp [Instr.build,zeroValue109,runUnderlying109,Value.cells,sizeOf30,sizeOf40,sizeOf87,sizeOf94]
 (try simp at h)
 (try simp only [show (ByteArray.empty:ByteArray)=⟨#[]⟩ from rfl] at h)
 simp [h]⟩
instance : ZeroT prog 109 (.agg #[(.slice none 0 0),(.int .i64 0),(.int .i64 0),(.slice none 0 0),(.int .i64 0),(.slice none 0 0),(.int .i64 0),(.slice none 0 0),(.slice none 0 0),(.slice none 0 0)]):=⟨zeroValue109⟩
instance : PlainT prog 116:=⟨isAgg116,sizeOf116⟩
instance : SlT prog 118 121 4:=⟨underlying118,sizeOf121⟩
instance : PlainT prog 118:=⟨isAgg118,sizeOf118⟩
instance : BuildT prog 121 #[(0,1),(1,1),(2,1),(3,1)] #[(.int .i64 0),(.int .i64 0),(.int .i64 0),(.slice none 0 0)]:=⟨fun pv cells w h=>by
 simp [Instr.build,zeroValue121,runUnderlying121,Value.cells,sizeOf3,sizeOf30]
 (try simp at h)
 (try simp only [show (ByteArray.empty:ByteArray)=⟨#[]⟩ from rfl] at h)
 simp [h]⟩
instance : ElT prog 121 (.agg #[(.int .i64 0),(.int .i64 0),(.int .i64 0),(.slice none 0 0)]) 4 48:=⟨by kernel_rfl⟩
instance : PtrT prog 129 221:=⟨underlying129⟩
instance : PlainT prog 129:=⟨isAgg129,sizeOf129⟩
instance : PtrT prog 131 224:=⟨underlying131⟩
instance : PlainT prog 131:=⟨isAgg131,sizeOf131⟩
instance : PlainT prog 135:=⟨isAgg135,sizeOf135⟩
instance : PlainT prog 138:=⟨isAgg138,sizeOf138⟩
instance : PlainT prog 141:=⟨isAgg141,sizeOf141⟩
instance : FieldT prog 143 0 0:=⟨fun _ _ _=>by kernel_rfl⟩
instance : FieldT prog 143 1 1:=⟨fun _ _ _=>by kernel_rfl⟩
instance : FieldT prog 143 2 2:=⟨fun _ _ _=>by kernel_rfl⟩
instance : FieldT prog 143 4 4:=⟨fun _ _ _=>by kernel_rfl⟩
instance : FieldT prog 143 5 5:=⟨fun _ _ _=>by kernel_rfl⟩
instance : FieldT prog 143 6 6:=⟨fun _ _ _=>by kernel_rfl⟩
instance : FieldT prog 143 7 7:=⟨fun _ _ _=>by kernel_rfl⟩
instance : FieldT prog 143 8 12:=⟨fun _ _ _=>by kernel_rfl⟩
instance : BuildT prog 143 #[(0,1),(1,1),(2,1),(3,1),(4,1),(5,1),(6,1),(7,5),(12,1)] #[(.pointer none),(.pointer none),(.slice none 0 0),(.slice none 0 0),(.slice none 0 0),(.slice none 0 0),(.map none),(.int .i64 0),(.slice none 0 0),(.int .i64 0),(.slice none 0 0),(.slice none 0 0),(.bool false)]:=⟨fun pv cells w h=>by
 simp [Instr.build,zeroValue143,runUnderlying143,Value.cells,sizeOf4,sizeOf30,sizeOf38,sizeOf87,sizeOf135,sizeOf138,sizeOf141]
 (try simp at h)
 (try simp only [show (ByteArray.empty:ByteArray)=⟨#[]⟩ from rfl] at h)
 simp [h]⟩
instance : PtrT prog 151 238:=⟨underlying151⟩
instance : PlainT prog 151:=⟨isAgg151,sizeOf151⟩
instance : PlainT prog 160:=⟨isAgg160,sizeOf160⟩
instance : ElT prog 160 .nilFunc 1 8:=⟨by kernel_rfl⟩
instance : SlT prog 161 160 1:=⟨underlying161,sizeOf160⟩
instance : SlT prog 163 249 2:=⟨underlying163,sizeOf249⟩
instance : PlainT prog 163:=⟨isAgg163,sizeOf163⟩
instance : SlT prog 164 98 1:=⟨underlying164,sizeOf98⟩
instance : PlainT prog 164:=⟨isAgg164,sizeOf164⟩
instance : PlainT prog 165:=⟨isAgg165,sizeOf165⟩
instance : PlainT prog 166:=⟨isAgg166,sizeOf166⟩
instance : FieldT prog 168 0 0:=⟨fun _ _ _=>by kernel_rfl⟩
instance : FieldT prog 168 1 1:=⟨fun _ _ _=>by kernel_rfl⟩
instance : BuildT prog 168 #[(0,1),(1,1)] #[(.map none),(.map none)]:=⟨fun pv cells w h=>by
 simp [Instr.build,zeroValue168,runUnderlying168,Value.cells,sizeOf166]
 (try simp at h)
 (try simp only [show (ByteArray.empty:ByteArray)=⟨#[]⟩ from rfl] at h)
 simp [h]⟩
instance : PlainT prog 169:=⟨isAgg169,sizeOf169⟩
instance : FieldT prog 171 0 0:=⟨fun _ _ _=>by kernel_rfl⟩
instance : FieldT prog 171 1 8:=⟨fun _ _ _=>by kernel_rfl⟩
instance : FieldT prog 171 2 9:=⟨fun _ _ _=>by kernel_rfl⟩
instance : FieldT prog 171 3 10:=⟨fun _ _ _=>by kernel_rfl⟩
instance : FieldT prog 171 4 11:=⟨fun _ _ _=>by kernel_rfl⟩
instance : FieldT prog 171 5 12:=⟨fun _ _ _=>by kernel_rfl⟩
instance : FieldT prog 171 6 13:=⟨fun _ _ _=>by kernel_rfl⟩
instance : FieldT prog 171 7 14:=⟨fun _ _ _=>by kernel_rfl⟩
instance : FieldT prog 171 8 15:=⟨fun _ _ _=>by kernel_rfl⟩
instance : FieldT prog 171 9 16:=⟨fun _ _ _=>by kernel_rfl⟩
instance : FieldT prog 171 10 19:=⟨fun _ _ _=>by kernel_rfl⟩
instance : FieldT prog 171 11 20:=⟨fun _ _ _=>by kernel_rfl⟩
instance : FieldT prog 171 12 21:=⟨fun _ _ _=>by kernel_rfl⟩
instance : FieldT prog 171 13 23:=⟨fun _ _ _=>by kernel_rfl⟩
instance : FieldT prog 171 14 25:=⟨fun _ _ _=>by kernel_rfl⟩
instance : FieldT prog 171 15 26:=⟨fun _ _ _=>by kernel_rfl⟩
instance : BuildT prog 171 #[(0,8),(8,1),(9,1),(10,1),(11,1),(12,1),(13,1),(14,1),(15,1),(16,3),(19,1),(20,1),(21,2),(23,2),(25,1),(26,1)] #[(.int .i64 0),(.int .i64 0),(.int .i64 0),(.int .i64 0),(.int .i64 0),(.int .i64 0),(.int .i64 0),(.string ByteArray.empty),(.slice none 0 0),(.pointer none),(.pointer none),(.slice none 0 0),(.pointer none),(.pointer none),(.pointer none),(.pointer none),(.slice none 0 0),(.slice none 0 0),(.int .i64 0),(.int .i64 0),(.slice none 0 0),(.map none),(.map none),(.int .i64 0),(.slice none 0 0),(.bool false),(.map none)]:=⟨fun pv cells w h=>by
 simp [Instr.build,zeroValue171,runUnderlying171,Value.cells,sizeOf3,sizeOf4,sizeOf26,sizeOf47,sizeOf62,sizeOf73,sizeOf83,sizeOf106,sizeOf118,sizeOf129,sizeOf131,sizeOf163,sizeOf164,sizeOf165,sizeOf168,sizeOf169]
 (try simp at h)
 (try simp only [show (ByteArray.empty:ByteArray)=⟨#[]⟩ from rfl] at h)
 simp [h]⟩
instance : FieldT prog 173 0 0:=⟨fun _ _ _=>by kernel_rfl⟩
instance : FieldT prog 173 1 1:=⟨fun _ _ _=>by kernel_rfl⟩
instance : FieldT prog 173 2 2:=⟨fun _ _ _=>by kernel_rfl⟩
instance : FieldT prog 173 3 5:=⟨fun _ _ _=>by kernel_rfl⟩
instance : FieldT prog 173 4 9:=⟨fun _ _ _=>by kernel_rfl⟩
instance : BuildT prog 173 #[(0,1),(1,1),(2,3),(5,4),(9,1)] #[(.pointer none),(.string ByteArray.empty),(.slice none 0 0),(.slice none 0 0),(.int .i64 0),(.string ByteArray.empty),(.int .u32 0),(.slice none 0 0),(.slice none 0 0),(.int .i64 0)]:=⟨fun pv cells w h=>by
 simp [Instr.build,zeroValue173,runUnderlying173,Value.cells,sizeOf3,sizeOf9,sizeOf67,sizeOf106,sizeOf138]
 (try simp at h)
 (try simp only [show (ByteArray.empty:ByteArray)=⟨#[]⟩ from rfl] at h)
 simp [h]⟩
instance : BuildT prog 181 #[(0,1),(1,1),(2,1),(3,1),(4,5),(9,1)] #[(.slice none 0 0),(.slice none 0 0),(.slice none 0 0),(.slice none 0 0),(.int .i64 0),(.slice none 0 0),(.int .i64 0),(.slice none 0 0),(.slice none 0 0),(.bool false)]:=⟨fun pv cells w h=>by
 simp [Instr.build,zeroValue181,runUnderlying181,Value.cells,sizeOf4,sizeOf30,sizeOf38,sizeOf72,sizeOf87]
 (try simp at h)
 (try simp only [show (ByteArray.empty:ByteArray)=⟨#[]⟩ from rfl] at h)
 simp [h]⟩
instance : SlT prog 182 38 1:=⟨underlying182,sizeOf38⟩
instance : FieldT prog 194 0 0:=⟨fun _ _ _=>by kernel_rfl⟩
instance : FieldT prog 194 1 1:=⟨fun _ _ _=>by kernel_rfl⟩
instance : FieldT prog 194 2 2:=⟨fun _ _ _=>by kernel_rfl⟩
instance : FieldT prog 194 3 3:=⟨fun _ _ _=>by kernel_rfl⟩
instance : FieldT prog 194 4 4:=⟨fun _ _ _=>by kernel_rfl⟩
instance : FieldT prog 194 6 6:=⟨fun _ _ _=>by kernel_rfl⟩
instance : FieldT prog 194 7 8:=⟨fun _ _ _=>by kernel_rfl⟩
instance : FieldT prog 194 8 12:=⟨fun _ _ _=>by kernel_rfl⟩
instance : BuildT prog 194 #[(0,1),(1,1),(2,1),(3,1),(4,1),(5,1),(6,2),(8,4),(12,1)] #[(.pointer none),(.pointer none),(.int .i64 0),(.slice none 0 0),(.slice none 0 0),(.slice none 0 0),(.int .i64 0),(.slice none 0 0),(.int .i64 0),(.int .i64 0),(.slice none 0 0),(.slice none 0 0),(.bool false)]:=⟨fun pv cells w h=>by
 simp [Instr.build,zeroValue194,runUnderlying194,Value.cells,sizeOf3,sizeOf4,sizeOf30,sizeOf83,sizeOf96,sizeOf135,sizeOf138]
 (try simp at h)
 (try simp only [show (ByteArray.empty:ByteArray)=⟨#[]⟩ from rfl] at h)
 simp [h]⟩
instance : PlainT prog 206:=⟨isAgg206,sizeOf206⟩
instance : PlainT prog 209:=⟨isAgg209,sizeOf209⟩
instance : PtrT prog 210 289:=⟨underlying210⟩
instance : PlainT prog 219:=⟨isAgg219,sizeOf219⟩
instance : FieldT prog 221 0 0:=⟨fun _ _ _=>by kernel_rfl⟩
instance : FieldT prog 221 1 1:=⟨fun _ _ _=>by kernel_rfl⟩
instance : FieldT prog 221 2 2:=⟨fun _ _ _=>by kernel_rfl⟩
instance : FieldT prog 221 3 3:=⟨fun _ _ _=>by kernel_rfl⟩
instance : FieldT prog 221 4 4:=⟨fun _ _ _=>by kernel_rfl⟩
instance : BuildT prog 221 #[(0,1),(1,1),(2,1),(3,1),(4,1)] #[(.pointer none),(.pointer none),(.pointer none),(.int .i64 0),(.slice none 0 0)]:=⟨fun pv cells w h=>by
 simp [Instr.build,zeroValue221,runUnderlying221,Value.cells,sizeOf3,sizeOf26,sizeOf38,sizeOf138,sizeOf219]
 (try simp at h)
 (try simp only [show (ByteArray.empty:ByteArray)=⟨#[]⟩ from rfl] at h)
 simp [h]⟩
instance : SlT prog 222 268 4:=⟨underlying222,sizeOf268⟩
instance : PlainT prog 222:=⟨isAgg222,sizeOf222⟩
instance : FieldT prog 224 0 0:=⟨fun _ _ _=>by kernel_rfl⟩
instance : FieldT prog 224 1 1:=⟨fun _ _ _=>by kernel_rfl⟩
instance : BuildT prog 224 #[(0,1),(1,1)] #[(.int .i64 0),(.slice none 0 0)]:=⟨fun pv cells w h=>by
 simp [Instr.build,zeroValue224,runUnderlying224,Value.cells,sizeOf3,sizeOf222]
 (try simp at h)
 (try simp only [show (ByteArray.empty:ByteArray)=⟨#[]⟩ from rfl] at h)
 simp [h]⟩
instance : FieldT prog 226 0 0:=⟨fun _ _ _=>by kernel_rfl⟩
instance : FieldT prog 226 1 1:=⟨fun _ _ _=>by kernel_rfl⟩
instance : FieldT prog 226 2 2:=⟨fun _ _ _=>by kernel_rfl⟩
instance : FieldT prog 226 3 3:=⟨fun _ _ _=>by kernel_rfl⟩
instance : FieldT prog 226 4 4:=⟨fun _ _ _=>by kernel_rfl⟩
instance : BuildT prog 226 #[(0,1),(1,1),(2,1),(3,1),(4,1)] #[(.slice none 0 0),(.int .i64 0),(.int .i64 0),(.int .i64 0),(.bool false)]:=⟨fun pv cells w h=>by
 simp [Instr.build,zeroValue226,runUnderlying226,Value.cells,sizeOf3,sizeOf4,sizeOf30]
 (try simp at h)
 (try simp only [show (ByteArray.empty:ByteArray)=⟨#[]⟩ from rfl] at h)
 simp [h]⟩
instance : FieldT prog 228 0 0:=⟨fun _ _ _=>by kernel_rfl⟩
instance : FieldT prog 228 1 1:=⟨fun _ _ _=>by kernel_rfl⟩
instance : BuildT prog 228 #[(0,1),(1,1)] #[(.pointer none),(.int .i64 0)]:=⟨fun pv cells w h=>by
 simp [Instr.build,zeroValue228,runUnderlying228,Value.cells,sizeOf3,sizeOf138]
 (try simp at h)
 (try simp only [show (ByteArray.empty:ByteArray)=⟨#[]⟩ from rfl] at h)
 simp [h]⟩
instance : FieldT prog 233 0 0:=⟨fun _ _ _=>by kernel_rfl⟩
instance : FieldT prog 233 1 1:=⟨fun _ _ _=>by kernel_rfl⟩
instance : BuildT prog 233 #[(0,1),(1,1)] #[(.pointer none),(.int .i64 0)]:=⟨fun pv cells w h=>by
 simp [Instr.build,zeroValue233,runUnderlying233,Value.cells,sizeOf3,sizeOf24]
 (try simp at h)
 (try simp only [show (ByteArray.empty:ByteArray)=⟨#[]⟩ from rfl] at h)
 simp [h]⟩
instance : FieldT prog 238 0 0:=⟨fun _ _ _=>by kernel_rfl⟩
instance : BuildT prog 238 #[(0,1)] #[(.slice none 0 0)]:=⟨fun pv cells w h=>by
 simp [Instr.build,zeroValue238,runUnderlying238,Value.cells,sizeOf30]
 (try simp at h)
 (try simp only [show (ByteArray.empty:ByteArray)=⟨#[]⟩ from rfl] at h)
 simp [h]⟩
instance : PlainT prog 242:=⟨isAgg242,sizeOf242⟩
instance : ElT prog 242 .nilFunc 1 8:=⟨by kernel_rfl⟩
instance : SlT prog 246 24 1:=⟨underlying246,sizeOf24⟩
instance : PlainT prog 246:=⟨isAgg246,sizeOf246⟩
instance : AggT prog 249 2:=⟨isAgg249,sizeOf249⟩
instance : FieldT prog 249 0 0:=⟨fun _ _ _=>by kernel_rfl⟩
instance : FieldT prog 249 1 1:=⟨fun _ _ _=>by kernel_rfl⟩
instance : BuildT prog 249 #[(0,1),(1,1)] #[(.slice none 0 0),.nilFunc]:=⟨fun pv cells w h=>by
 simp [Instr.build,zeroValue249,runUnderlying249,Value.cells,sizeOf242,sizeOf246]
 (try simp at h)
 (try simp only [show (ByteArray.empty:ByteArray)=⟨#[]⟩ from rfl] at h)
 simp [h]⟩
instance : ZeroT prog 249 (.agg #[(.slice none 0 0),.nilFunc]):=⟨zeroValue249⟩
instance : ElT prog 249 (.agg #[(.slice none 0 0),.nilFunc]) 2 32:=⟨by kernel_rfl⟩
instance : AggT prog 254 2:=⟨isAgg254,sizeOf254⟩
instance : FieldT prog 254 0 0:=⟨fun _ _ _=>by kernel_rfl⟩
instance : FieldT prog 254 1 1:=⟨fun _ _ _=>by kernel_rfl⟩
instance : BuildT prog 254 #[(0,1),(1,1)] #[(.int .i64 0),(.int .i64 0)]:=⟨fun pv cells w h=>by
 simp [Instr.build,zeroValue254,runUnderlying254,Value.cells,sizeOf3]
 (try simp at h)
 (try simp only [show (ByteArray.empty:ByteArray)=⟨#[]⟩ from rfl] at h)
 simp [h]⟩
instance : ZeroT prog 254 (.agg #[(.int .i64 0),(.int .i64 0)]):=⟨zeroValue254⟩
instance : SlT prog 262 265 2:=⟨underlying262,sizeOf265⟩
instance : AggT prog 265 2:=⟨isAgg265,sizeOf265⟩
instance : FieldT prog 265 0 0:=⟨fun _ _ _=>by kernel_rfl⟩
instance : FieldT prog 265 1 1:=⟨fun _ _ _=>by kernel_rfl⟩
instance : BuildT prog 265 #[(0,1),(1,1)] #[(.int .i64 0),(.int .i64 0)]:=⟨fun pv cells w h=>by
 simp [Instr.build,zeroValue265,runUnderlying265,Value.cells,sizeOf3]
 (try simp at h)
 (try simp only [show (ByteArray.empty:ByteArray)=⟨#[]⟩ from rfl] at h)
 simp [h]⟩
instance : ZeroT prog 265 (.agg #[(.int .i64 0),(.int .i64 0)]):=⟨zeroValue265⟩
instance : ElT prog 265 (.agg #[(.int .i64 0),(.int .i64 0)]) 2 16:=⟨by kernel_rfl⟩
instance : AggT prog 268 4:=⟨isAgg268,sizeOf268⟩
instance : FieldT prog 268 0 0:=⟨fun _ _ _=>by kernel_rfl⟩
instance : FieldT prog 268 1 1:=⟨fun _ _ _=>by kernel_rfl⟩
instance : FieldT prog 268 2 2:=⟨fun _ _ _=>by kernel_rfl⟩
instance : FieldT prog 268 3 3:=⟨fun _ _ _=>by kernel_rfl⟩
instance : BuildT prog 268 #[(0,1),(1,1),(2,1),(3,1)] #[(.int .i64 0),(.int .i64 0),(.int .i64 0),(.slice none 0 0)]:=⟨fun pv cells w h=>by
 simp [Instr.build,zeroValue268,runUnderlying268,Value.cells,sizeOf3,sizeOf30]
 (try simp at h)
 (try simp only [show (ByteArray.empty:ByteArray)=⟨#[]⟩ from rfl] at h)
 simp [h]⟩
instance : ZeroT prog 268 (.agg #[(.int .i64 0),(.int .i64 0),(.int .i64 0),(.slice none 0 0)]):=⟨zeroValue268⟩
instance : ElT prog 268 (.agg #[(.int .i64 0),(.int .i64 0),(.int .i64 0),(.slice none 0 0)]) 4 48:=⟨by kernel_rfl⟩
instance : IntT prog 278 .u64:=⟨underlying278⟩
instance : FieldT prog 289 0 0:=⟨fun _ _ _=>by kernel_rfl⟩
instance : FieldT prog 289 1 1:=⟨fun _ _ _=>by kernel_rfl⟩
instance : BuildT prog 289 #[(0,1),(1,1)] #[(.slice none 0 0),(.bool false)]:=⟨fun pv cells w h=>by
 simp [Instr.build,zeroValue289,runUnderlying289,Value.cells,sizeOf4,sizeOf30]
 (try simp at h)
 (try simp only [show (ByteArray.empty:ByteArray)=⟨#[]⟩ from rfl] at h)
 simp [h]⟩
instance : ArrT prog 296 8 61 1:=⟨underlying296,sizeOf61⟩
instance : AggT prog 296 8:=⟨isAgg296,sizeOf296⟩
instance : ZeroT prog 296 (.agg #[(.int .u32 0),(.int .u32 0),(.int .u32 0),(.int .u32 0),(.int .u32 0),(.int .u32 0),(.int .u32 0),(.int .u32 0)]):=⟨zeroValue296⟩
instance : ArrT prog 297 64 61 1:=⟨underlying297,sizeOf61⟩
instance : AggT prog 297 64:=⟨isAgg297,sizeOf297⟩
instance : ZeroT prog 297 (.agg #[(.int .u32 0),(.int .u32 0),(.int .u32 0),(.int .u32 0),(.int .u32 0),(.int .u32 0),(.int .u32 0),(.int .u32 0),(.int .u32 0),(.int .u32 0),(.int .u32 0),(.int .u32 0),(.int .u32 0),(.int .u32 0),(.int .u32 0),(.int .u32 0),(.int .u32 0),(.int .u32 0),(.int .u32 0),(.int .u32 0),(.int .u32 0),(.int .u32 0),(.int .u32 0),(.int .u32 0),(.int .u32 0),(.int .u32 0),(.int .u32 0),(.int .u32 0),(.int .u32 0),(.int .u32 0),(.int .u32 0),(.int .u32 0),(.int .u32 0),(.int .u32 0),(.int .u32 0),(.int .u32 0),(.int .u32 0),(.int .u32 0),(.int .u32 0),(.int .u32 0),(.int .u32 0),(.int .u32 0),(.int .u32 0),(.int .u32 0),(.int .u32 0),(.int .u32 0),(.int .u32 0),(.int .u32 0),(.int .u32 0),(.int .u32 0),(.int .u32 0),(.int .u32 0),(.int .u32 0),(.int .u32 0),(.int .u32 0),(.int .u32 0),(.int .u32 0),(.int .u32 0),(.int .u32 0),(.int .u32 0),(.int .u32 0),(.int .u32 0),(.int .u32 0),(.int .u32 0)]):=⟨zeroValue297⟩
instance : IntT prog 301 .u64:=⟨underlying301⟩
instance : SlT prog 307 242 1:=⟨underlying307,sizeOf242⟩
instance : PlainT prog 317:=⟨isAgg317,sizeOf317⟩
instance : SlT prog 319 330 3:=⟨underlying319,sizeOf330⟩
instance : PlainT prog 319:=⟨isAgg319,sizeOf319⟩
instance : FieldT prog 321 0 0:=⟨fun _ _ _=>by kernel_rfl⟩
instance : FieldT prog 321 1 3:=⟨fun _ _ _=>by kernel_rfl⟩
instance : FieldT prog 321 2 4:=⟨fun _ _ _=>by kernel_rfl⟩
instance : FieldT prog 321 3 5:=⟨fun _ _ _=>by kernel_rfl⟩
instance : FieldT prog 321 4 6:=⟨fun _ _ _=>by kernel_rfl⟩
instance : FieldT prog 321 5 11:=⟨fun _ _ _=>by kernel_rfl⟩
instance : FieldT prog 321 6 12:=⟨fun _ _ _=>by kernel_rfl⟩
instance : FieldT prog 321 7 13:=⟨fun _ _ _=>by kernel_rfl⟩
instance : FieldT prog 321 8 18:=⟨fun _ _ _=>by kernel_rfl⟩
instance : BuildT prog 321 #[(0,3),(3,1),(4,1),(5,1),(6,5),(11,1),(12,1),(13,5),(18,1)] #[(.slice none 0 0),(.slice none 0 0),(.int .i64 0),(.int .i64 0),(.pointer none),(.slice none 0 0),(.int .i64 0),(.slice none 0 0),(.int .i64 0),(.slice none 0 0),(.slice none 0 0),(.bool false),(.slice none 0 0),(.int .i64 0),(.slice none 0 0),(.int .i64 0),(.slice none 0 0),(.slice none 0 0),(.slice none 0 0)]:=⟨fun pv cells w h=>by
 simp [Instr.build,zeroValue321,runUnderlying321,Value.cells,sizeOf3,sizeOf4,sizeOf87,sizeOf94,sizeOf106,sizeOf317,sizeOf319]
 (try simp at h)
 (try simp only [show (ByteArray.empty:ByteArray)=⟨#[]⟩ from rfl] at h)
 simp [h]⟩
instance : FieldT prog 330 0 0:=⟨fun _ _ _=>by kernel_rfl⟩
instance : FieldT prog 330 1 1:=⟨fun _ _ _=>by kernel_rfl⟩
instance : FieldT prog 330 2 2:=⟨fun _ _ _=>by kernel_rfl⟩
instance : ElT prog 330 (.agg #[(.int .i64 0),(.int .i64 0),(.bool false)]) 3 24:=⟨by kernel_rfl⟩
instance : AggT prog 340 2:=⟨isAgg340,sizeOf340⟩
instance : BuildT prog 340 #[(0,1),(1,1)] #[(.int .i64 0),(.int .i64 0)]:=⟨fun pv cells w h=>by
 simp [Instr.build,zeroValue340,runUnderlying340,Value.cells,sizeOf3]
 (try simp at h)
 (try simp only [show (ByteArray.empty:ByteArray)=⟨#[]⟩ from rfl] at h)
 simp [h]⟩
instance : ZeroT prog 340 (.agg #[(.int .i64 0),(.int .i64 0)]):=⟨zeroValue340⟩
instance : SlT prog 362 377 3:=⟨underlying362,sizeOf377⟩
instance : PlainT prog 362:=⟨isAgg362,sizeOf362⟩
instance : FieldT prog 364 0 0:=⟨fun _ _ _=>by kernel_rfl⟩
instance : FieldT prog 364 1 1:=⟨fun _ _ _=>by kernel_rfl⟩
instance : BuildT prog 364 #[(0,1),(1,1)] #[(.slice none 0 0),(.int .i64 0)]:=⟨fun pv cells w h=>by
 simp [Instr.build,zeroValue364,runUnderlying364,Value.cells,sizeOf3,sizeOf362]
 (try simp at h)
 (try simp only [show (ByteArray.empty:ByteArray)=⟨#[]⟩ from rfl] at h)
 simp [h]⟩
instance : SlT prog 366 368 2:=⟨underlying366,sizeOf368⟩
instance : PlainT prog 366:=⟨isAgg366,sizeOf366⟩
instance : AggT prog 368 2:=⟨isAgg368,sizeOf368⟩
instance : FieldT prog 368 0 0:=⟨fun _ _ _=>by kernel_rfl⟩
instance : FieldT prog 368 1 1:=⟨fun _ _ _=>by kernel_rfl⟩
instance : BuildT prog 368 #[(0,1),(1,1)] #[(.slice none 0 0),(.int .i64 0)]:=⟨fun pv cells w h=>by
 simp [Instr.build,zeroValue368,runUnderlying368,Value.cells,sizeOf3,sizeOf30]
 (try simp at h)
 (try simp only [show (ByteArray.empty:ByteArray)=⟨#[]⟩ from rfl] at h)
 simp [h]⟩
instance : ZeroT prog 368 (.agg #[(.slice none 0 0),(.int .i64 0)]):=⟨zeroValue368⟩
instance : ElT prog 368 (.agg #[(.slice none 0 0),(.int .i64 0)]) 2 32:=⟨by kernel_rfl⟩
instance : FieldT prog 370 0 0:=⟨fun _ _ _=>by kernel_rfl⟩
instance : FieldT prog 370 1 1:=⟨fun _ _ _=>by kernel_rfl⟩
instance : FieldT prog 370 2 2:=⟨fun _ _ _=>by kernel_rfl⟩
instance : FieldT prog 370 3 3:=⟨fun _ _ _=>by kernel_rfl⟩
instance : BuildT prog 370 #[(0,1),(1,1),(2,1),(3,1)] #[(.int .i64 0),(.int .i64 0),(.int .i64 0),(.slice none 0 0)]:=⟨fun pv cells w h=>by
 simp [Instr.build,zeroValue370,runUnderlying370,Value.cells,sizeOf3,sizeOf366]
 (try simp at h)
 (try simp only [show (ByteArray.empty:ByteArray)=⟨#[]⟩ from rfl] at h)
 simp [h]⟩
instance : AggT prog 377 3:=⟨isAgg377,sizeOf377⟩
instance : FieldT prog 377 0 0:=⟨fun _ _ _=>by kernel_rfl⟩
instance : FieldT prog 377 1 1:=⟨fun _ _ _=>by kernel_rfl⟩
instance : FieldT prog 377 2 2:=⟨fun _ _ _=>by kernel_rfl⟩
instance : BuildT prog 377 #[(0,1),(1,1),(2,1)] #[(.int .i64 0),(.int .i64 0),(.int .i64 0)]:=⟨fun pv cells w h=>by
 simp [Instr.build,zeroValue377,runUnderlying377,Value.cells,sizeOf3]
 (try simp at h)
 (try simp only [show (ByteArray.empty:ByteArray)=⟨#[]⟩ from rfl] at h)
 simp [h]⟩
instance : ZeroT prog 377 (.agg #[(.int .i64 0),(.int .i64 0),(.int .i64 0)]):=⟨zeroValue377⟩
instance : ElT prog 377 (.agg #[(.int .i64 0),(.int .i64 0),(.int .i64 0)]) 3 24:=⟨by kernel_rfl⟩
instance : ArrT prog 402 4 4 1:=⟨underlying402,sizeOf4⟩
instance : ZeroT prog 402 (.agg #[(.bool false),(.bool false),(.bool false),(.bool false)]):=⟨zeroValue402⟩
instance : CallT prog 11 11:=⟨call11⟩
instance : CallT prog 12 12:=⟨call12⟩
instance : CallT prog 13 13:=⟨call13⟩
instance : CallT prog 14 14:=⟨call14⟩
instance : CallT prog 15 15:=⟨call15⟩
instance : CallT prog 16 16:=⟨call16⟩
instance : CallT prog 17 17:=⟨call17⟩
instance : CallT prog 18 18:=⟨call18⟩
instance : CallT prog 19 19:=⟨call19⟩
instance : CallT prog 20 20:=⟨call20⟩
instance : CallT prog 21 21:=⟨call21⟩
instance : CallT prog 22 22:=⟨call22⟩
instance : CallT prog 23 23:=⟨call23⟩
instance : CallT prog 24 24:=⟨call24⟩
instance : CallT prog 25 25:=⟨call25⟩
instance : CallT prog 26 26:=⟨call26⟩
instance : CallT prog 27 27:=⟨call27⟩
instance : CallT prog 28 28:=⟨call28⟩
instance : CallT prog 29 29:=⟨call29⟩
instance : CallT prog 31 31:=⟨call31⟩
instance : CallT prog 32 32:=⟨call32⟩
instance : CallT prog 34 34:=⟨call34⟩
instance : CallT prog 37 37:=⟨call37⟩
instance : CallT prog 43 43:=⟨call43⟩
instance : CallT prog 45 45:=⟨call45⟩
instance : CallT prog 46 46:=⟨call46⟩
instance : CallT prog 47 47:=⟨call47⟩
instance : CallT prog 49 49:=⟨call49⟩
instance : CallT prog 50 50:=⟨call50⟩
instance : CallT prog 51 51:=⟨call51⟩
instance : CallT prog 52 52:=⟨call52⟩
instance : CallT prog 54 54:=⟨call54⟩
instance : CallT prog 56 56:=⟨call56⟩
instance : CallT prog 59 59:=⟨call59⟩
instance : CallT prog 60 60:=⟨call60⟩
instance : CallT prog 61 61:=⟨call61⟩
instance : CallT prog 62 62:=⟨call62⟩
instance : CallT prog 63 63:=⟨call63⟩
instance : CallT prog 64 64:=⟨call64⟩
instance : CallT prog 65 65:=⟨call65⟩
instance : CallT prog 66 66:=⟨call66⟩
instance : CallT prog 67 67:=⟨call67⟩
instance : CallT prog 68 68:=⟨call68⟩
instance : CallT prog 69 69:=⟨call69⟩
instance : CallT prog 70 70:=⟨call70⟩
instance : CallT prog 71 71:=⟨call71⟩
instance : CallT prog 72 72:=⟨call72⟩
instance : CallT prog 73 73:=⟨call73⟩
instance : CallT prog 74 74:=⟨call74⟩
instance : CallT prog 75 75:=⟨call75⟩
instance : CallT prog 76 76:=⟨call76⟩
instance : CallT prog 77 77:=⟨call77⟩
instance : CallT prog 78 78:=⟨call78⟩
instance : CallT prog 79 79:=⟨call79⟩
instance : CallT prog 80 80:=⟨call80⟩
instance : CallT prog 81 81:=⟨call81⟩
instance : CallT prog 82 82:=⟨call82⟩
instance : CallT prog 83 83:=⟨call83⟩
instance : CallT prog 84 84:=⟨call84⟩
instance : CallT prog 85 85:=⟨call85⟩
instance : CallT prog 86 86:=⟨call86⟩
instance : CallT prog 87 87:=⟨call87⟩
instance : CallT prog 88 88:=⟨call88⟩
instance : CallT prog 89 89:=⟨call89⟩
instance : CallT prog 90 90:=⟨call90⟩
instance : CallT prog 94 94:=⟨call94⟩
instance : CallT prog 98 98:=⟨call98⟩
instance : CallT prog 99 99:=⟨call99⟩
instance : CallT prog 101 101:=⟨call101⟩
instance : CallT prog 102 102:=⟨call102⟩
instance : CallT prog 107 107:=⟨call107⟩
instance : CallT prog 108 108:=⟨call108⟩
instance : CallT prog 110 110:=⟨call110⟩
instance : CallT prog 111 111:=⟨call111⟩
instance : CallT prog 112 112:=⟨call112⟩
instance : CallT prog 113 113:=⟨call113⟩
instance : CallT prog 114 114:=⟨call114⟩
instance : CallT prog 115 115:=⟨call115⟩
instance : CallT prog 116 116:=⟨call116⟩
instance : CallT prog 117 117:=⟨call117⟩
instance : CallT prog 118 118:=⟨call118⟩
instance : CallT prog 119 119:=⟨call119⟩
instance : CallT prog 120 120:=⟨call120⟩
instance : CallT prog 121 121:=⟨call121⟩
instance : CallT prog 122 122:=⟨call122⟩
instance : CallT prog 123 123:=⟨call123⟩
instance : CallT prog 124 124:=⟨call124⟩
instance : CallT prog 125 125:=⟨call125⟩
instance : CallT prog 126 126:=⟨call126⟩
instance : CallT prog 127 127:=⟨call127⟩
instance : CallT prog 128 128:=⟨call128⟩
instance : CallT prog 129 129:=⟨call129⟩
instance : CallT prog 130 130:=⟨call130⟩
instance : CallT prog 131 131:=⟨call131⟩
instance : CallT prog 132 132:=⟨call132⟩
instance : CallT prog 133 133:=⟨call133⟩
instance : CallT prog 134 134:=⟨call134⟩
instance : CallT prog 135 135:=⟨call135⟩
instance : CallT prog 136 136:=⟨call136⟩
instance : CallT prog 139 139:=⟨call139⟩
instance : CallT prog 140 140:=⟨call140⟩
instance : CallT prog 141 141:=⟨call141⟩
instance : CallT prog 142 142:=⟨call142⟩
instance : CallT prog 143 143:=⟨call143⟩
instance : CallT prog 144 144:=⟨call144⟩
instance : CallT prog 145 145:=⟨call145⟩
instance : CallT prog 146 146:=⟨call146⟩
instance : CallT prog 147 147:=⟨call147⟩
instance : CallT prog 148 148:=⟨call148⟩
instance : CallT prog 149 149:=⟨call149⟩
instance : CallT prog 150 150:=⟨call150⟩
instance : CallT prog 151 151:=⟨call151⟩
instance : CallT prog 152 152:=⟨call152⟩
instance : CallT prog 153 153:=⟨call153⟩
instance : CallT prog 154 154:=⟨call154⟩
instance : CallT prog 155 155:=⟨call155⟩
instance : CallT prog 156 156:=⟨call156⟩
instance : CallT prog 157 157:=⟨call157⟩
instance : CallT prog 158 158:=⟨call158⟩
instance : CallT prog 159 159:=⟨call159⟩
instance : CallT prog 160 160:=⟨call160⟩
instance : CallT prog 161 161:=⟨call161⟩
instance : CallT prog 162 162:=⟨call162⟩
instance : CallT prog 163 163:=⟨call163⟩
instance : CallT prog 164 164:=⟨call164⟩
instance : CallT prog 165 165:=⟨call165⟩
instance : CallT prog 166 166:=⟨call166⟩
instance : CallT prog 167 167:=⟨call167⟩
instance : CallT prog 168 168:=⟨call168⟩
instance : CallT prog 169 169:=⟨call169⟩
instance : CallT prog 170 170:=⟨call170⟩
instance : CallT prog 171 171:=⟨call171⟩
instance : CallT prog 172 172:=⟨call172⟩
instance : CallT prog 173 173:=⟨call173⟩
instance : CallT prog 174 174:=⟨call174⟩
instance : CallT prog 175 175:=⟨call175⟩
instance : CallT prog 176 176:=⟨call176⟩
instance : CallT prog 177 177:=⟨call177⟩
instance : CallT prog 178 178:=⟨call178⟩
instance : CallT prog 179 179:=⟨call179⟩
instance : CallT prog 180 180:=⟨call180⟩
instance : CallT prog 181 181:=⟨call181⟩
instance : CallT prog 182 182:=⟨call182⟩
instance : CallT prog 187 187:=⟨call187⟩
instance : CallT prog 188 188:=⟨call188⟩
instance : CallT prog 189 189:=⟨call189⟩
instance : CallT prog 190 190:=⟨call190⟩
instance : CallT prog 195 195:=⟨call195⟩
instance : CallT prog 196 196:=⟨call196⟩
instance : CallT prog 197 197:=⟨call197⟩
instance : CallT prog 198 198:=⟨call198⟩
instance : CallT prog 199 199:=⟨call199⟩
instance : CallT prog 200 200:=⟨call200⟩
instance : CallT prog 201 201:=⟨call201⟩
instance : CallT prog 202 202:=⟨call202⟩
instance : CallT prog 203 203:=⟨call203⟩
instance : CallT prog 204 204:=⟨call204⟩
instance : CallT prog 205 205:=⟨call205⟩
instance : CallT prog 206 206:=⟨call206⟩
instance : CallT prog 207 207:=⟨call207⟩
instance : CallT prog 208 208:=⟨call208⟩
instance : CallT prog 209 209:=⟨call209⟩
instance : CallT prog 210 210:=⟨call210⟩
instance : CallT prog 211 211:=⟨call211⟩
instance : CallT prog 212 212:=⟨call212⟩
instance : CallT prog 213 213:=⟨call213⟩
instance : CallT prog 214 214:=⟨call214⟩
instance : CallT prog 215 215:=⟨call215⟩
instance : CallT prog 216 216:=⟨call216⟩
instance : CallT prog 217 217:=⟨call217⟩
instance : CallT prog 218 218:=⟨call218⟩
instance : CallT prog 224 224:=⟨call224⟩
instance : CallT prog 225 225:=⟨call225⟩
instance : CallT prog 226 226:=⟨call226⟩
instance : CallT prog 227 227:=⟨call227⟩
instance : CallT prog 228 228:=⟨call228⟩
instance : CallT prog 229 229:=⟨call229⟩
instance : CallT prog 230 230:=⟨call230⟩
instance : CallT prog 231 231:=⟨call231⟩
instance : CallT prog 232 232:=⟨call232⟩
instance : CallT prog 233 233:=⟨call233⟩
instance : CallT prog 234 234:=⟨call234⟩
instance : CallT prog 235 235:=⟨call235⟩
instance : CallT prog 236 236:=⟨call236⟩
instance : CallT prog 237 237:=⟨call237⟩
instance : CallT prog 238 238:=⟨call238⟩
instance : CallT prog 239 239:=⟨call239⟩
instance : CallT prog 240 240:=⟨call240⟩
instance : CallT prog 241 241:=⟨call241⟩
instance : CallT prog 242 242:=⟨call242⟩
instance : CallT prog 243 243:=⟨call243⟩
instance : CallT prog 244 244:=⟨call244⟩
instance : CallT prog 245 245:=⟨call245⟩
instance : CallT prog 246 246:=⟨call246⟩
instance : CallT prog 247 247:=⟨call247⟩
instance : CallT prog 248 248:=⟨call248⟩
instance : CallT prog 249 249:=⟨call249⟩
instance : CallT prog 250 250:=⟨call250⟩
instance : CallT prog 251 251:=⟨call251⟩
instance : CallT prog 252 252:=⟨call252⟩
instance : CallT prog 253 253:=⟨call253⟩
instance : CallT prog 254 254:=⟨call254⟩
instance : CallT prog 257 257:=⟨call257⟩
instance : CallT prog 258 258:=⟨call258⟩
instance : CallT prog 259 259:=⟨call259⟩
instance : CallT prog 262 262:=⟨call262⟩
instance : CallT prog 263 263:=⟨call263⟩
instance : CallT prog 264 264:=⟨call264⟩
instance : CallT prog 265 265:=⟨call265⟩
instance : CallT prog 266 266:=⟨call266⟩
instance : CallT prog 267 267:=⟨call267⟩
instance : CallT prog 268 268:=⟨call268⟩
instance : CallT prog 269 269:=⟨call269⟩
instance : CallT prog 270 270:=⟨call270⟩
instance : CallT prog 271 271:=⟨call271⟩
instance : CallT prog 272 272:=⟨call272⟩
instance : CallT prog 273 273:=⟨call273⟩
instance : CallT prog 274 274:=⟨call274⟩
instance : CallT prog 275 275:=⟨call275⟩
instance : CallT prog 276 276:=⟨call276⟩
instance : CallT prog 278 278:=⟨call278⟩
instance : CallT prog 279 279:=⟨call279⟩
instance : CallT prog 280 280:=⟨call280⟩
instance : CallT prog 281 281:=⟨call281⟩
instance : CallT prog 282 282:=⟨call282⟩
instance : CallT prog 283 283:=⟨call283⟩
instance : CallT prog 284 284:=⟨call284⟩
instance : CallT prog 285 285:=⟨call285⟩
instance : CallT prog 286 286:=⟨call286⟩
instance : CallT prog 287 287:=⟨call287⟩
instance : CallT prog 288 288:=⟨call288⟩
instance : CallT prog 289 289:=⟨call289⟩
instance : CallT prog 290 290:=⟨call290⟩
instance : CallT prog 291 291:=⟨call291⟩
instance : CallT prog 292 292:=⟨call292⟩
instance : CallT prog 293 293:=⟨call293⟩
instance : CallT prog 294 294:=⟨call294⟩
instance : CallT prog 295 295:=⟨call295⟩
instance : CallT prog 296 296:=⟨call296⟩
instance : CallT prog 297 297:=⟨call297⟩
instance : CallT prog 298 298:=⟨call298⟩
instance : CallT prog 299 299:=⟨call299⟩
instance : CallT prog 300 300:=⟨call300⟩
instance : CallT prog 301 301:=⟨call301⟩
instance : CallT prog 302 302:=⟨call302⟩
instance : CallT prog 303 303:=⟨call303⟩
instance : CallT prog 304 304:=⟨call304⟩
instance : CallT prog 305 305:=⟨call305⟩
instance : CallT prog 306 306:=⟨call306⟩
instance : CallT prog 307 307:=⟨call307⟩
instance : CallT prog 308 308:=⟨call308⟩
instance : CallT prog 309 309:=⟨call309⟩
instance : CallT prog 310 310:=⟨call310⟩
instance : CallT prog 311 311:=⟨call311⟩
instance : CallT prog 312 312:=⟨call312⟩
instance : CallT prog 313 313:=⟨call313⟩
instance : CallT prog 314 314:=⟨call314⟩
theorem Tryz.mixed:prog.follows .mixedOrders=true:=by kernel_rfl
end Go.Proofs
namespace Go.Bs
open Go.ChangeShapes Go.WideShapes Go.ChangeAt Go.RowKit
theorem Ct.calls {P:Program} {f:FuncId} {args:Array Value} {W:World} (h:Ct P f args W [Base W] (fun v L'=>v=.bool true∧∃ R,L'=Base W::R)) :
 Calls P f args W fun e w'=>e=.returned (.bool true)∧Below W.heap.size W w':=by
 have hs:Sat W [Base W] W:=⟨rfl,rfl,rfl,hp W,fun _=>none,fun _ _ _=>rfl,Heap.le_refl _,fun _ _ e=>by simp at e,fun _ _=>rfl,trivial⟩
 refine (h W hs).mono ?_;rintro e w' ⟨v,L',rfl,⟨rfl,R,rfl⟩,hs'⟩;refine ⟨rfl,?_⟩;obtain ⟨a,b,c,h1,h2,d,l1,l2,hB,hR⟩:=hs'
 have hblk:∀ k,k<W.heap.size→w'.heap[k]?=W.heap[k]?:=fun k hk=>by
  have h3:=hB k hk;rw [Array.getElem?_eq_getElem hk] at h3 ⊢
  exact l1 k _ h3
 refine ⟨a,b,c,?_,hblk⟩;rcases Nat.lt_or_ge w'.heap.size W.heap.size with hlt|hge
 ·have h4:=hblk w'.heap.size hlt;rw [Array.getElem?_eq_none (Nat.le_refl _),Array.getElem?_eq_getElem hlt] at h4
  cases h4
 ·exact hge
section
variable {H:Type} {enc:TypeId × Value→H} {P:Program}
theorem trodAll_carry (hl:laidOutB P=true) {W W':World} (hb:Below W.heap.size W W'):∀ {ts:List TypeId} {vs:List Value} {ds:List (DataW H)} {ps:List MemPlace},
 (∀ t∈ts,P.readableRec t=true∧t<P.types.size)→(∀ x∈ps,x.block<W.heap.size)→DataW.TrodAll enc P W 0 (fun _=>true) true ts vs ds ps →
 DataW.TrodAll enc P W' 0 (fun b=>decide (b<W.heap.size)) true ts vs ds ps
 | [],[],[],_,_,_,h=>h
 | t::ts,v::vs,d::ds,ps,ht,hlt,h=>by
  obtain ⟨p,q,h1,h2,rfl⟩:=h;have h3:=ht t (List.mem_cons_self ..)
  exact ⟨p,q,Below.trod hl h3.1 h3.2 h1 hb (fun x hx=>hlt x (List.mem_append_left _ hx)),
   trodAll_carry hl hb (fun t' h'=>ht t' (List.mem_cons_of_mem _ h')) (fun x hx=>hlt x (List.mem_append_right _ hx)) h2,rfl⟩
 | [],[],_::_,_,_,_,h=>h.elim
 | [],_::_,_,_,_,_,h=>h.elim
 | _::_,[],_,_,_,_,h=>h.elim
 | _::_,_::_,[],_,_,_,h=>h.elim
theorem law_post {f:Func} {s:ChangeSpec} {apart fresh handsOn:Bool} {W W':World} {args:Array Value} {ds gs:List (DataW H)} {before:List MemPlace} {tb:TypeId}
 (hW:DataW.Whole enc P f.params.toList s.vars apart W args.toList ds gs before) (hv:s.vars=[]) (hspec:s.fn H ds={ results:=[.lit (.bool true)],args:=ds })
 (hres:f.resultTypes=#[tb]) (hbool:P.underlying tb=some .bool) (hl:laidOutB P=true) (hr:∀ t∈f.params.toList,P.readableRec t=true∧t<P.types.size) (hb:Below W.heap.size W W') :
 s.post enc P f apart fresh handsOn false W args (.bool true) W':=by
 have hlt:=hW.lt;have hW':=hW;obtain ⟨p,q,hA,hV,rfl,hfz,hnd⟩:=hW;rw [hv] at hV
 have hg:gs=[]∧q=[]:=by
  cases gs with
  | nil=>exact ⟨rfl,hV⟩
  | cons _ _=>exact hV.elim
 obtain ⟨rfl,rfl⟩:=hg;refine ⟨ds,[],p++[],[],p,[],hW',?_,?_,?_,?_,fun h=>by cases h⟩
 ·rw [List.append_nil,hspec,hres];refine ⟨[],[],⟨1,?_⟩,rfl,rfl⟩
  simp [DataW.trod,hbool,Value.cells]
 ·rw [List.append_nil,hspec];exact trodAll_carry hl hb hr (fun x hx=>hlt x (by simpa using hx)) hA
 ·rw [hv,List.append_nil,hspec];exact rfl
 ·exact World.keptBut_mono (fun _ f=>f.elim) (Below.frame hb fun _=>False)
end
theorem i64_bounds {a:Int} (h:(Lit.int .i64 a).wf=true):-9223372036854775808≤a∧a≤9223372036854775807:=by
 have h1:IntKind.i64.min = -9223372036854775808:=rfl;have h2:IntKind.i64.max=9223372036854775807:=rfl;simp only [Lit.wf,Bool.and_eq_true,decide_eq_true_eq] at h
 omega
end Go.Bs
namespace Go.Bs
open Go.ChangeShapes Go.WideShapes Go.ChangeAt Go.RowKit
section
variable {P:Program} {W:World} {t e:TypeId} {cs:List Value} {n:Nat}
def Arg (P:Program) (W:World) (t:TypeId) (cs:List Value):Prop :=
 ∃ (H:Type) (enc:TypeId × Value→H) (base:Nat) (sp:Nat→Bool) (held:Bool) (fuel:Nat) (x:DataW H × List MemPlace),DataW.trod enc P W base sp held fuel t cs=some x∧∀ m∈x.1.weights P t,m≤reachBytes
theorem arg_int {k:IntKind} (ht:P.underlying t=some (.int k)) (h:Arg P W t cs):∃ m,cs=[.int k m]∧(Lit.int k m).wf=true:=by
 obtain ⟨H,enc,base,sp,held,fuel,x,h1,h2⟩:=h;obtain ⟨m,h3,_,h4⟩:=DataW.trod_int ht h1;exact ⟨m,h3,h4⟩
theorem arg_bool (ht:P.underlying t=some .bool) (h:Arg P W t cs):∃ b,cs=[.bool b]:=by
 obtain ⟨H,enc,base,sp,held,fuel,x,h1,h2⟩:=h;obtain ⟨b,h3,_⟩:=DataW.trod_bool ht h1;exact ⟨b,h3⟩
theorem flatten_get:∀ {css:List (List Value)},0<n→(∀ c∈css,c.length=n)→∀ j,css.flatten[j]?=(css[j / n]?).bind (fun c=>c[j % n]?)
 | [],_,_,j=>by simp
 | c::css,h0,h,j=>by
  have hc:=h c (List.mem_cons_self ..);simp only [List.flatten_cons];rcases Nat.lt_or_ge j n with hj|hj
  ·rw [List.getElem?_append_left (by omega),Nat.div_eq_of_lt hj,Nat.mod_eq_of_lt hj]
   simp
  ·rw [List.getElem?_append_right (by omega),hc,flatten_get h0 (fun c' h'=>h c' (List.mem_cons_of_mem _ h')) (j - n)]
   have e1:j / n=(j - n) / n+1:=by
    conv=>lhs;rw [show j=(j - n)+n by omega]
    exact Nat.add_div_right _ h0
   have e2:j % n=(j - n) % n:=by
    conv=>lhs;rw [show j=(j - n)+n by omega]
    exact Nat.add_mod_right _ _
   rw [e1,e2]
   simp
theorem flatten_len:∀ {css:List (List Value)},(∀ c∈css,c.length=n)→css.flatten.length=css.length*n
 | [],_=>by simp
 | c::css,h=>by
  have:=h c (List.mem_cons_self ..);have:=flatten_len (css:=css) (fun c' h'=>h c' (List.mem_cons_of_mem _ h'));simp only [List.flatten_cons,List.length_append,List.length_cons,Nat.add_mul,Nat.one_mul]
  omega
theorem cells_get {base:Nat} {a:Addr} {c:List Value} (h:W.cells? base a n=some c):c.length=n∧∀ r u,c[r]?=some u→W.cell? (a.add r)=some u:=by
 unfold World.cells? at h
 split at h
 ·have hl:=mapM_some_length h;simp only [List.length_range] at hl
  refine ⟨hl,fun r u hr=>?_⟩;have hlt:r<n:=by rw [← hl];exact (List.getElem?_eq_some_iff.1 hr).1
  have:=mapM_some_get h r r (by simp [hlt]);rw [this,hr]
 ·cases h
theorem add_plain (g o k:Nat):(⟨g,o,none⟩:Addr).add k=⟨g,o+k,none⟩:=by
 unfold Addr.add
 split
 ·rename_i h;subst h;rfl
 ·rfl
theorem arg_slice (ht:P.underlying t=some (.slice e)) (hn:P.cellsOf e=n) (h0:0<n) (h:Arg P W t cs) :
 ∃ v,∃ css:List (List Value),cs=[v]∧RdSl [Base W] n v css.length css.flatten∧css.length*P.bytesOf e≤reachBytes∧∀ c∈css,c.length=n∧Arg P W e c:=by
 subst hn;obtain ⟨H,enc,base,sp,held,fuel,x,h1,h2⟩:=h;rcases DataW.trod_slice ht h1 with ⟨rfl,rfl⟩|⟨a,len,cap,elems,rest,m,rfl,rfl,rfl,hb,hl,hm,hlen,hel,_,_⟩
 ·exact ⟨_,[],rfl,RdSl.nil _ _,by simp,fun c hc=>by simp at hc⟩
 ·have hex:∀ i,i<len→∃ c y,W.cells? base (a.add (i*P.cellsOf e)) (P.cellsOf e)=some c∧DataW.trod enc P W base sp held m e c=some y∧elems[i]?=some y:=fun i hi=>by
   have h3:=hel i hi;rw [List.getElem?_eq_getElem (by omega)] at h3
   cases hc:W.cells? base (a.add (i*P.cellsOf e)) (P.cellsOf e) with
   | none=>rw [hc] at h3;cases h3
   | some c=>rw [hc] at h3;exact ⟨c,_,rfl,h3,List.getElem?_eq_getElem (by omega)⟩
  have hcss:∀ c∈(List.range len).map (fun i=>(W.cells? base (a.add (i*P.cellsOf e)) (P.cellsOf e)).getD []),∃ i,i<len∧W.cells? base (a.add (i*P.cellsOf e)) (P.cellsOf e)=some c:=fun c hc=>by
   obtain ⟨i,hi,rfl⟩:=List.mem_map.1 hc;obtain ⟨c',y,h3,_⟩:=hex i (List.mem_range.1 hi);exact ⟨i,List.mem_range.1 hi,by rw [h3];rfl⟩
  refine ⟨_,(List.range len).map (fun i=>(W.cells? base (a.add (i*P.cellsOf e)) (P.cellsOf e)).getD []),rfl,?_,?_,fun c hc=>?_⟩
  ·intro hh hx
   have hlens:∀ c∈(List.range len).map (fun i=>(W.cells? base (a.add (i*P.cellsOf e)) (P.cellsOf e)).getD []),c.length=P.cellsOf e:=fun c hc=>by
    obtain ⟨i,hi,h3⟩:=hcss c hc;exact (cells_get h3).1
   refine ⟨flatten_len hlens,some a,cap,by simp,by simpa using hl,hm,fun h=>by simp at h,fun j u hj=>?_⟩;rw [flatten_get h0 hlens] at hj
   simp only [Option.bind_eq_some_iff] at hj
   obtain ⟨c,hc1,hc2⟩:=hj;simp only [List.getElem?_map,Option.map_eq_some_iff] at hc1
   obtain ⟨i,hi,rfl⟩:=hc1
   have hi':i=j / P.cellsOf e∧i<len:=by
    have h8:=(List.getElem?_eq_some_iff.1 hi).1;simp only [List.length_range] at h8
    rw [List.getElem?_range h8] at hi
    cases hi
    exact ⟨rfl,h8⟩
   obtain ⟨c',y,h3,_⟩:=hex i hi'.2;rw [h3] at hc2
   have h4:=(cells_get h3).2 _ _ hc2;obtain ⟨c0,y0,h30,_⟩:=hex 0 (by omega);have h40:=(cells_get h30).2 0 _ (List.getElem?_eq_getElem (by rw [(cells_get h30).1];exact h0));obtain ⟨g,o,sp'⟩:=a
   have hsp:sp'=none:=by
    cases sp' with
    | none=>rfl
    | some s =>
     rw [cell_hp] at h40
     unfold Heap.cell at h40
     simp only [Nat.zero_mul,Addr.add,if_pos,Option.isSome_some] at h40
     split at h40<;>cases h40
   subst hsp
   have h5:((⟨g,o,none⟩:Addr).add (i*P.cellsOf e)).add (j % P.cellsOf e)=⟨g,o+j,none⟩:=by
    have:i*P.cellsOf e+j % P.cellsOf e=j:=by rw [hi'.1];exact Nat.div_add_mod' j _
    rw [add_plain,add_plain,Nat.add_assoc,this]
   rw [h5] at h4
   exact ⟨g,o,rfl,Rd.base .zero h4 hh hx⟩
  ·simp only [List.length_map,List.length_range];have:=h2 ((elems.length+rest.length)*P.bytesOf e) (by simp [DataW.weights,ht]);have h3:len*P.bytesOf e≤(elems.length+rest.length)*P.bytesOf e:=Nat.mul_le_mul_right _ (by omega)
   omega
  ·obtain ⟨i,hi,h3⟩:=hcss c hc;obtain ⟨c',y,h4,h5,h6⟩:=hex i hi;rw [h3] at h4
   cases h4
   refine ⟨(cells_get h3).1,H,enc,base,sp,held,m,y,h5,fun k hk=>h2 k ?_⟩;simp only [DataW.weights,ht,List.mem_cons,List.mem_append];refine Or.inr (Or.inl ?_)
   have hmem:∀ {l:List (DataW H × List MemPlace)} {y:DataW H × List MemPlace} {k:Nat},y∈l→k∈y.1.weights P e→k∈DataW.weightsAll P e (l.map (·.1)):=by
    intro l
    induction l with
    | nil=>intro y k h;simp at h
    | cons z l ih =>
     intro y k h hk;simp only [List.map_cons,DataW.weightsAll,List.mem_append];rcases List.mem_cons.1 h with rfl|h
     ·exact Or.inl hk
     ·exact Or.inr (ih h hk)
   exact hmem (List.mem_of_getElem? h6) hk
theorem lift_list {α:Type} {f:α→List Value} {ok:α→Prop}:∀ {css:List (List Value)},(∀ c∈css,∃ a,c=f a∧ok a)→∃ l:List α,css=l.map f∧∀ a∈l,ok a
 | [],_=>⟨[],rfl,fun a h=>by simp at h⟩
 | c::css,h=>by
  obtain ⟨a,rfl,ha⟩:=h c (List.mem_cons_self ..);obtain ⟨l,rfl,hs⟩:=lift_list (css:=css) fun c' h'=>h c' (List.mem_cons_of_mem _ h')
  refine ⟨a::l,rfl,fun b hb=>?_⟩;rcases List.mem_cons.1 hb with rfl|hb
  ·exact ha
  ·exact hs b hb
theorem flatten_one {α:Type} (g:α→Value):∀ l:List α,(l.map fun a=>[g a]).flatten=l.map g
 | []=>rfl
 | a::l=>by simp [flatten_one g l]
theorem arg_bytes (ht:P.underlying t=some (.slice e)) (he:P.underlying e=some (.int .u8)) (hn:P.cellsOf e=1) (hb:P.bytesOf e=1) (h:Arg P W t cs) :
 ∃ v,∃ l:List UInt8,cs=[v]∧RdB [Base W] v l∧l.length≤reachBytes:=by
 obtain ⟨v,css,rfl,h1,h2,h3⟩:=arg_slice ht hn (by omega) h
 obtain ⟨l,rfl,_⟩:=lift_list (α:=UInt8) (f:=fun b=>[u8 b]) (ok:=fun _=>True) (css:=css) fun c hc=>by
  obtain ⟨m,rfl,hm⟩:=arg_int he (h3 c hc).2;have e1:IntKind.u8.min=0:=rfl;have e2:IntKind.u8.max=255:=rfl;simp only [Lit.wf,Bool.and_eq_true,decide_eq_true_eq] at hm
  refine ⟨UInt8.ofNat m.toNat,?_,trivial⟩
  have e3:((UInt8.ofNat m.toNat).toNat:Int)=m:=by
   rw [UInt8.toNat_ofNat']
   omega
  simp only [u8,e3]
 rw [flatten_one] at h1
 simp only [List.length_map,hb] at h1 h2
 exact ⟨v,l,rfl,h1,by omega⟩
theorem arg_ints {k:IntKind} (ht:P.underlying t=some (.slice e)) (he:P.underlying e=some (.int k)) (hn:P.cellsOf e=1) (h:Arg P W t cs) :
 ∃ v,∃ l:List Int,cs=[v]∧RdSl [Base W] 1 v l.length (l.map (Value.int k))∧l.length*P.bytesOf e≤reachBytes∧∀ m∈l,(Lit.int k m).wf=true:=by
 obtain ⟨v,css,rfl,h1,h2,h3⟩:=arg_slice ht hn (by omega) h;obtain ⟨l,rfl,h4⟩:=lift_list (α:=Int) (f:=fun b=>[.int k b]) (ok:=fun m=>(Lit.int k m).wf=true) (css:=css) fun c hc=>arg_int he (h3 c hc).2
 rw [flatten_one] at h1
 simp only [List.length_map] at h1 h2
 exact ⟨v,l,rfl,h1,h2,h4⟩
theorem arg_of {H:Type} {enc:TypeId × Value→H} {v:Value} {d:DataW H} {q:List MemPlace} {base:Nat} {sp:Nat→Bool} {held:Bool} (h:DataW.Trod enc P W base sp held t v d q) (hw:∀ m∈d.weights P t,m≤reachBytes):Arg P W t v.cells.toList:=by
 obtain ⟨fuel,hf⟩:=h;exact ⟨H,enc,base,sp,held,fuel,_,hf,hw⟩
def ArgV (P:Program) (W:World) (t:TypeId) (v:Value):Prop:=(∃ base,Value.okWide P W .any base t v)∧Arg P W t v.cells.toList
def Args (P:Program) (W:World):List TypeId→List Value→Prop
 | [],[]=>True
 | t::ts,v::vs=>ArgV P W t v∧Args P W ts vs
 | _,_=>False
theorem args_of {H:Type} {enc:TypeId × Value→H} {base b2:Nat} {sp:Nat→Bool} {held:Bool}:∀ {ts:List TypeId} {vs:List Value} {ds:List (DataW H)} {q:List MemPlace},
 DataW.TrodAll enc P W base sp held ts vs ds q→(∀ m∈DataW.weightsEach P ts ds,m≤reachBytes)→(∀ (j:Nat) t v,ts[j]?=some t→vs[j]?=some v→Value.okWide P W .any b2 t v)→Args P W ts vs∧ds.length=ts.length
 | [],[],[],_,_,_,_=>⟨trivial,rfl⟩
 | t::ts,v::vs,d::ds,q,h,hw,hv=>by
  obtain ⟨p,q',h1,h2,rfl⟩:=h;have ih:=args_of (ts:=ts) (vs:=vs) (ds:=ds) h2 (fun m hm=>hw m (by simp only [DataW.weightsEach,List.mem_append];exact Or.inr hm)) (fun j t v h3 h4=>hv (j+1) t v (by simpa using h3) (by simpa using h4));exact ⟨⟨⟨⟨b2,hv 0 t v rfl rfl⟩,arg_of h1 (fun m hm=>hw m (by simp only [DataW.weightsEach,List.mem_append];exact Or.inl hm))⟩,ih.1⟩,by simp [ih.2]⟩
 | [],[],_::_,_,h,_,_=>h.elim
 | [],_::_,_,_,h,_,_=>h.elim
 | _::_,[],_,_,h,_,_=>h.elim
 | _::_,_::_,[],_,h,_,_=>h.elim
theorem argv_slice {v:Value} (ht:P.underlying t=some (.slice e)) (h:ArgV P W t v):Arg P W t [v]:=by
 obtain ⟨⟨b,h1⟩,h2⟩:=h;obtain ⟨a,l,c,rfl⟩:=Go.WideShapes.okWide_slice ht h1
 simpa [Value.cells] using h2
theorem row_lifted {H:Type} {enc:TypeId × Value→H} {a:Assume} {C:Checked} {os:Os} {f:FuncId} {fn:Func} {s:ChangeSpec} {conds:List PathCond} {apart fresh handsOn:Bool} {tb:TypeId}
 (own:ownKnob C.prog.godebug=none) (started:os.Started) (noInit:C.prog.inits.idxOf? f=none) (hfn:C.prog.funcs[f]?=some fn)
 (witness:∃ (w:World) (tape:Tape) (i:Input),w.os=os∧(w.forCall tape i).Shaped C.prog∧i.vars=[]∧Input.okWide C.prog (w.forCall tape i) .any w.heap.size f i ∧
  s.pre6 enc C.prog fn conds apart (w.forCall tape i).memory i.args∧a.holds C.prog (lone (Frame.enter C.prog f i.args .normal) [] (w.forCall tape i)))
 (hv:s.vars=[]) (hvt:s.plain.varTypes C.prog=[]) (hspec:∀ ds:List (DataW H),ds.length=fn.params.toList.length→s.fn H ds={ results:=[.lit (.bool true)],args:=ds })
 (hres:fn.resultTypes=#[tb]) (hbool:C.prog.underlying tb=some .bool) (hl:laidOutB C.prog=true) (hr:∀ t∈fn.params.toList,C.prog.readableRec t=true∧t<C.prog.types.size)
 (walk:∀ (W:World) (vs:List Value),Args C.prog W fn.params.toList vs→Calls C.prog f vs.toArray W fun e w'=>e=.returned (.bool true)∧Below W.heap.size W w') :
 ReturnsInHanded a C os f .any (s.pre6 enc C.prog fn conds apart) (s.post enc C.prog fn apart fresh handsOn false):=by
 refine returnsInHanded_of_change_sized own started noInit hfn witness ?_;intro W base args ds gs before hval hW _ hwt _;have hW':=hW;obtain ⟨p,q,hA,hV,rfl,hfz,hnd⟩:=hW;rw [hv] at hV
 have hg:gs=[]:=by
  cases gs with
  | nil=>rfl
  | cons _ _=>exact hV.elim
 subst hg;rw [hvt,List.append_nil,List.append_nil] at hwt
 obtain ⟨h1,h2⟩:=args_of hA (fun m hm=>by simpa using List.all_eq_true.1 hwt m hm) (fun j t v h3 h4=>hval j t v (by simpa using h3) (by simpa using h4));refine (walk W args.toList h1).mono fun e W' ⟨he,hgd⟩=>?_
 subst he;exact ⟨_,rfl,law_post hW' hv (hspec ds h2) hres hbool hl hr hgd⟩
end
end Go.Bs
namespace Go.Bs
def be (n:Nat):Nat→List UInt8
 | 0=>[]
 | j+1=>UInt8.ofNat (n / 256 ^ j)::be n j
theorem be_length (n:Nat):∀ j,(be n j).length=j
 | 0=>rfl
 | j+1=>by simp [be,be_length n j]
end Go.Bs
namespace Go.Bs
def numOf (l:List UInt8):Nat:=l.foldl (fun a c=>(a*256) % 4294967296+c.toNat) 0
theorem numOf_snoc (l:List UInt8) (c:UInt8):numOf (l++[c])=(numOf l*256) % 4294967296+c.toNat:=by simp [numOf]
theorem numOf_lt (l:List UInt8):numOf l<4294967296:=by
 rcases List.eq_nil_or_concat l with rfl|⟨m,c,rfl⟩
 ·simp [numOf]
 ·rw [List.concat_eq_append,numOf_snoc];have:=c.toNat_lt
  omega
structure RSt where
 left:List UInt8
 bad:Bool
def RSt.fits (s:RSt) (n:Int):Bool:=!s.bad && decide (0≤n) && decide (n≤s.left.length)
def RSt.take (s:RSt) (n:Int):List UInt8:=if s.fits n then s.left.take n.toNat else []
def RSt.next (s:RSt) (n:Int):RSt:=if s.fits n then ⟨s.left.drop n.toNat,false⟩ else ⟨[],true⟩
def RSt.num (s:RSt) (n:Int):Nat:=numOf (s.take n)
def RSt.len (s:RSt) (most:Int):Int:=if (s.num 2:Int) > max most 0 then -1 else s.num 2
def RSt.bytes (s:RSt) (most:Int):List UInt8:=(s.next 2).take (s.len most)
def RSt.nextB (s:RSt) (most:Int):RSt:=(s.next 2).next (s.len most)
theorem RSt.take_length (s:RSt) (n:Int):(s.take n).length≤s.left.length:=by
 unfold RSt.take;split
 ·simp;omega
 ·simp
theorem RSt.next_length (s:RSt) (n:Int):(s.next n).left.length≤s.left.length:=by
 unfold RSt.next;split
 ·simp
 ·simp
end Go.Bs
namespace Go.Bs
theorem be4 (n:Nat):be n 4=[UInt8.ofNat (n / 16777216),UInt8.ofNat (n / 65536),UInt8.ofNat (n / 256),UInt8.ofNat n]:=by
 simp [be]
theorem numOf_be4 (n:Nat) (h:n<4294967296):numOf (be n 4)=n:=by
 rw [be4]
 simp [numOf]
 omega
theorem numOf_be2 (n:Nat) (h:n<65536):numOf (be n 2)=n:=by
 simp [be,numOf]
 omega
def enc (b:List UInt8):List UInt8:=be b.length 2++b
theorem enc_length (b:List UInt8):(enc b).length=b.length+2:=by simp [enc,be_length];omega
theorem take_fits {a rest:List UInt8}:RSt.take ⟨a++rest,false⟩ (a.length:Int)=a∧RSt.next ⟨a++rest,false⟩ (a.length:Int)=⟨rest,false⟩:=by
 have h:RSt.fits ⟨a++rest,false⟩ (a.length:Int)=true:=by
  simp only [RSt.fits,Bool.not_false,Bool.true_and,Bool.and_eq_true,decide_eq_true_eq,List.length_append]
  omega
 constructor
 ·simp only [RSt.take,h,if_true]
  simp
 ·simp only [RSt.next,h,if_true]
  simp
theorem bytes_enc (x rest:List UInt8) (m:Int) (hx:x.length≤65535) (hm:(x.length:Int)≤max m 0):RSt.bytes ⟨enc x++rest,false⟩ m=x∧RSt.nextB ⟨enc x++rest,false⟩ m=⟨rest,false⟩:=by
 have e1:enc x++rest=be x.length 2++(x++rest):=by simp [enc]
 have h1:=take_fits (a:=be x.length 2) (rest:=x++rest);rw [be_length] at h1
 have h2:RSt.num ⟨enc x++rest,false⟩ 2=x.length:=by
  rw [RSt.num,e1]
  show numOf (RSt.take ⟨be x.length 2++(x++rest),false⟩ ((2:Nat):Int))=_
  rw [h1.1];exact numOf_be2 _ (by omega)
 have h3:RSt.len ⟨enc x++rest,false⟩ m=x.length:=by rw [RSt.len,h2,if_neg (by omega)]
 have h4:RSt.next ⟨enc x++rest,false⟩ 2=⟨x++rest,false⟩:=by
  rw [e1];exact h1.2
 have h5:=take_fits (a:=x) (rest:=rest);exact ⟨by rw [RSt.bytes,h3,h4];exact h5.1,by rw [RSt.nextB,h3,h4];exact h5.2⟩
end Go.Bs
namespace Go.Proofs
attribute [local irreducible] Bs.Val Bs.Do Bs.O Bs.W Bs.Fin Bs.A Bs.Ct Bs.RdSl Bs.Rd Bs.Sat Bs.Blk Bs.Ob Bs.Own Bs.View Bs.Ent Bs.Ex Bs.All Bs.Pu Bs.Base Bs.sepL Bs.RdA
open Go.Bs
open Tryz
abbrev _root_.Go.Bs.tU8:TypeId:=5
theorem u8_one {l:List UInt8}:∀ c∈l.map u8,c.oneCell'=true:=by
 intro c hc;obtain ⟨x,_,rfl⟩:=List.mem_map.1 hc
 rfl
abbrev OwnB (v:Value) (l:List UInt8):Res:=Own tU8 1 v l.length (l.map u8)
theorem clone_spec (R:List Res) (e:World) (v:Value) (l:List UInt8) (h:RdB R v l) (hk:l.length≤140737488355328) :
 Ct prog 66 #[v] e R (fun v' L'=>∃ ad c,v'=.slice ad l.length c∧L'=OwnB (.slice ad l.length c) l::R):=by
 refine Ct.of_sep (h.shape zo) ?_;rintro ⟨⟨ad,cap,rfl,h3,h4,h5,h6⟩,_⟩;refine Ct.enter (args:=[_]) func66 rfl ntmps66 results66 rfl ?_
 cases ad with
 | none =>
  have hl0:l=[]:=by
   have:=h5 rfl;exact List.eq_nil_of_length_eq_zero zo
  subst hl0;refine wB ?_;exact Fin.ret _ rfl (own_nil _ _) ⟨_,_,rfl,rfl⟩
 | some a =>
  (repeat (refine wA ?_;intros))
  refine O.ent1 (own_in (n:=1) (k:=0) (cap:=0) zo zl rfl) ?_;refine O.do (Do.append rfl rfl rfl .zero h rfl rfl u8_one zm zo fun ad' c' hv'=>?_)
  refine wB ?_;refine Fin.ret _ rfl ?_ ⟨ad',c',by simp [tup],rfl⟩;simp only [Nat.zero_add];exact Ent.rfl
theorem ownB_cut {ad:Option Addr} {c k:Nat} {b:List UInt8} {R:List Res} (h:k≤b.length):Ent (OwnB (.slice ad b.length c) b::R) (OwnB (.slice ad (b.take k).length c) (b.take k)::R):=by
 have e1:(b.take k).length=k:=by rw [List.length_take];omega
 have:=own_cutHi (E:=tU8) (n:=1) (c:=c) (ad:=ad) (xs:=b.map u8) (R:=R) h;rw [Nat.mul_one,← List.map_take] at this
 unfold OwnB;rw [e1];exact this
theorem ownB_cap {v:Value} {b:List UInt8} {L R:List Res} (p:Pull L (OwnB v b) R):∀ h,sepL L h→∃ ad c,v=.slice ad b.length c∧b.length≤c∧c≤maxLen:=fun h x=>by
 obtain ⟨⟨ad,c,h1,h2,h3,_⟩,_⟩:=own_shape p h x;exact ⟨ad,c,h1,h2,h3⟩
theorem own_addr {E n k c:Nat} {ad:Option Addr} {xs:List Value} {L R:List Res} (p:Pull L (Own E n (.slice ad k c) k xs) R) (hk:0<k):∀ h,sepL L h→∃ g,ad=some ⟨g,0,none⟩:=fun h x=>by
 obtain ⟨⟨a,c',h1,_,_,h4⟩,_⟩:=own_shape p h x
 cases h1
 rcases h4 with ⟨_,_,h0⟩|h0
 ·omega
 ·exact h0
theorem RdB.cutHi {L:List Res} {ad:Option Addr} {c k:Nat} {l:List UInt8} (h:RdB L (.slice ad l.length c) l) (hk:k≤l.length):RdB L (.slice ad k c) (l.take k):=by
 have:=RdSl.cutHi (L:=L) h hk;rw [Nat.mul_one,← List.map_take] at this
 have e:(l.take k).length=k:=by simp;omega
 unfold RdB;rw [e];exact this
theorem RdB.one {L:List Res} {v:Value} {l:List UInt8} (h:RdB L v l):∀ x,sepL L x→v.oneCell'=true:=fun x hx=>by
 obtain ⟨⟨ad,c,rfl,_⟩,_⟩:=h.shape zo x hx
 rfl
end Go.Proofs
namespace Go.Bs
abbrev Txt:=Value × List UInt8
def Txts (L:List Res) (l:List Txt):Prop:=∀ a∈l,RdB L a.1 a.2
theorem Txts.tail {A:Res} {L:List Res} {l:List Txt} (h:Txts L l):Txts (A::L) l:=fun a ha=>(h a ha).tail
theorem Ent.under {L L':List Res} (f:Ent L L'):∀ M:List Res,Ent (M++L) (M++L')
 | []=>f
 | _::M=>Ent.cons (Ent.under f M)
theorem all_append {M N R:List Res}:Ent (All M::All N::R) (All (M++N)::R):=by
 refine Ent.trans all_out (Ent.trans (Ent.under all_out M) ?_);rw [← List.append_assoc];exact all_in
theorem all_split {M N R:List Res}:Ent (All (M++N)::R) (All M::All N::R):=by
 refine Ent.trans all_out ?_;rw [List.append_assoc];exact Ent.trans (Ent.under all_in M) all_in
theorem sepL_mem {A:Res}:∀ {M:List Res} {h:Heap},A∈M→sepL M h→∃ h1,Heap.le h1 h∧A h1
 | [],_,hm,_=>by cases hm
 | B::M,h,hm,x=>by
  obtain ⟨h1,h2,a,b,c,hB,hM⟩:=x;rcases List.mem_cons.1 hm with rfl|hm
  ·exact ⟨h1,b,hB⟩
  ·obtain ⟨h3,d,hA⟩:=sepL_mem hm hM;exact ⟨h3,Heap.le_trans d c,hA⟩
def item (a:Txt):Res:=View 1 a.1 a.2.length (a.2.map u8)
def Items (l:List Txt):Res:=All (l.map item)
theorem items_rd {l:List Txt} {R:List Res}:Txts (Items l::R) l:=fun a ha h x=>by
 obtain ⟨h1,h2,_,b,_,hA,_⟩:=x;obtain ⟨h3,c,hi⟩:=sepL_mem (List.mem_map.2 ⟨a,ha,rfl⟩) hA;exact View.le hi (Heap.le_trans c b)
theorem items_nil {R:List Res}:Ent R (Items []::R):=all_in (M:=[])
theorem items_append {l m:List Txt} {R:List Res}:Ent (Items l::Items m::R) (Items (l++m)::R):=by
 unfold Items;rw [List.map_append];exact all_append
theorem items_split {l m:List Txt} {R:List Res}:Ent (Items (l++m)::R) (Items l::Items m::R):=by
 unfold Items;rw [List.map_append];exact all_split
theorem items_one {a:Txt} {R:List Res}:Ent (View 1 a.1 a.2.length (a.2.map u8)::R) (Items [a]::R):=all_in (M:=[item a])
theorem items_own {a:Txt} {R:List Res}:Ent (Own tU8 1 a.1 a.2.length (a.2.map u8)::R) (Items [a]::R):=own_view.trans items_one
theorem items_drop {l:List Txt} {R:List Res} (k:Nat):Ent (Items l::R) (Items (l.drop k)::R):=by
 conv=>lhs;rw [← List.take_append_drop k l]
 exact items_split.trans (Ent.drop Ent.rfl)
abbrev tTxts:TypeId:=30
abbrev OwnT (v:Value) (l:List Txt):Res:=Own tTxts 1 v l.length (l.map (·.1))
section
variable {α:Type} {f:α→List Value} {n:Nat}
theorem flatN_len (hf:∀ a,(f a).length=n):∀ l:List α,(l.flatMap f).length=l.length*n
 | []=>by simp
 | m::l=>by
  rw [List.flatMap_cons,List.length_append,flatN_len hf l,hf,List.length_cons,Nat.add_mul];omega
theorem flatN_take (hf:∀ a,(f a).length=n) (l:List α) (i:Nat):(l.flatMap f).take (i*n)=(l.take i).flatMap f:=by
 induction l generalizing i with
 | nil=>simp
 | cons m l ih =>
  cases i with
  | zero=>simp
  | succ i =>
   have h1:(i+1)*n=i*n+n:=Nat.succ_mul i n;rw [List.flatMap_cons,List.take_succ_cons,List.flatMap_cons,List.take_append,hf,List.take_of_length_le (by rw [hf];omega),← ih]
   congr 2;omega
theorem flatN_drop (hf:∀ a,(f a).length=n) (l:List α) (i:Nat):(l.flatMap f).drop (i*n)=(l.drop i).flatMap f:=by
 induction l generalizing i with
 | nil=>simp
 | cons m l ih =>
  cases i with
  | zero=>simp
  | succ i =>
   have h1:(i+1)*n=i*n+n:=Nat.succ_mul i n;rw [List.flatMap_cons,List.drop_succ_cons,List.drop_append,hf,List.drop_of_length_le (by rw [hf];omega),← ih];simp only [List.nil_append]
   congr 1;omega
theorem flatN_ones {l:List α} (h:∀ a∈l,∀ c∈f a,c.oneCell'=true):∀ c∈l.flatMap f,c.oneCell'=true:=fun c hc=>by
 obtain ⟨a,ha,hc⟩:=List.mem_flatMap.1 hc;exact h a ha c hc
end
end Go.Bs
namespace Go.Proofs
open Go.Bs
open Tryz
theorem argv_nums {W:World} {v:Value} (h:ArgV prog W 22 v):∃ l:List Int,RdSl [Base W] 1 v l.length (l.map fun x=>.int .i64 x)∧∀ x∈l,-9223372036854775808≤x∧x≤9223372036854775807:=by
 obtain ⟨v',l,e0,h1,h2⟩:=arg_ints underlying22 underlying3 zK (argv_slice underlying22 h)
 cases e0
 exact ⟨l,h1,fun x hx=>i64_bounds (h2.2 x hx)⟩
end Go.Proofs
namespace Go.Bs
theorem ent_perm {L L':List Res} (h:L.Perm L'):Ent L L':=by
 induction h with
 | nil=>exact Ent.rfl
 | cons _ _ ih=>exact Ent.cons ih
 | swap _ _ _=>exact fun _ x=>sepL_swap x
 | trans _ _ a b=>exact Ent.trans a b
section
variable (P:Program) (N:Fr) (ops:Array Oper) (e:World) (σ0:Env) (L0:List Res)
end
section
variable {P:Program} {N:Fr} {ops:Array Oper} {e:World} {σ0:Env} {L0:List Res}
theorem Do.ent1 {o:Oper} {K:Env→List Res→Prop} {σ:Env} {L L':List Res} (f:Ent L L') (h:Do P N o K σ e L'):Do P N o K σ e L:=fun a w ha hs=>h a w ha (hs.ent f)
def Held1 (σ:Env) (a:Act):Prop:=∀ k v,get σ k=some v→a.tmps[k]?=some v
theorem held_append {σ τ:Env} {a:Act} (h:Held1 σ a) (h':Held1 τ a):Held1 (σ++τ) a:=by
 induction σ with
 | nil=>exact h'
 | cons x r ih =>
  intro k v hk;obtain ⟨j,u⟩:=x;rw [List.cons_append,get_cons] at hk
  by_cases hj:j=k
  ·rw [if_pos hj] at hk
   exact h k v (by rw [get_cons,if_pos hj];exact hk)
  ·rw [if_neg hj] at hk
   cases hr:get r k with
   | some u' =>
    have e1:get (r++τ) k=some u':=by
     clear ih h hk hj
     induction r with
     | nil=>cases hr
     | cons y r ih2 =>
      obtain ⟨i,w⟩:=y;rw [List.cons_append,get_cons];rw [get_cons] at hr
      split
      ·rename_i hi;rw [if_pos hi] at hr;exact hr
      ·rename_i hi;rw [if_neg hi] at hr;exact ih2 hr
    rw [e1] at hk;cases hk
    exact h k _ (by rw [get_cons,if_neg hj];exact hr)
   | none =>
    have e1:get (r++τ) k=get τ k:=by
     clear ih h hk hj
     induction r with
     | nil=>rfl
     | cons y r ih2 =>
      obtain ⟨i,w⟩:=y;rw [List.cons_append,get_cons];rw [get_cons] at hr
      split
      ·rename_i hi;rw [if_pos hi] at hr;cases hr
      ·rename_i hi;rw [if_neg hi] at hr;exact ih2 hr
    rw [e1] at hk
    exact h' k v hk
theorem get_mem {σ:Env} {k:Nat} {v:Value} (h:get σ k=some v):(k,v)∈σ:=by
 induction σ with
 | nil=>cases h
 | cons x r ih =>
  obtain ⟨j,u⟩:=x;rw [get_cons] at h
  by_cases hj:j=k
  ·subst hj;simp at h;subst h;exact List.mem_cons_self ..
  ·rw [if_neg hj] at h;exact List.mem_cons_of_mem _ (ih h)
def others (a:Act) (ds:List Nat):Env:=(List.range a.tmps.size).filterMap fun k=>if ds.contains k then none else (a.tmps[k]?).map fun v=>(k,v)
theorem others_mem {a:Act} {ds:List Nat} {x:Nat × Value} (h:x∈others a ds):a.tmps[x.1]?=some x.2:=by
 unfold others at h
 rw [List.mem_filterMap] at h
 obtain ⟨k,_,h⟩:=h
 split at h
 ·cases h
 ·rw [Option.map_eq_some_iff] at h
  obtain ⟨v,h1,rfl⟩:=h;exact h1
theorem others_held {a:Act} {ds:List Nat}:Held1 (others a ds) a:=fun k v hk=>others_mem (get_mem hk)
theorem others_get {a:Act} {ds:List Nat} {k:Nat} {v:Value} (hk:k ∉ ds) (hv:a.tmps[k]?=some v):get (others a ds) k=some v:=by
 have hm:(k,v)∈others a ds:=by
  unfold others;rw [List.mem_filterMap];refine ⟨k,List.mem_range.2 (Array.getElem?_eq_some_iff.1 hv).1,?_⟩;rw [if_neg (by simpa using hk),hv]
  rfl
 cases hg:get (others a ds) k with
 | some u =>
  have:=others_mem (get_mem hg);dsimp only at this
  rw [hv] at this;exact this.symm
 | none =>
  exfalso
  clear hv
  generalize others a ds=τ at *
  induction τ with
  | nil=>cases hm
  | cons y r ih =>
   obtain ⟨i,u⟩:=y;rw [get_cons] at hg
   by_cases hi:i=k
   ·rw [if_pos hi] at hg;cases hg
   ·rw [if_neg hi] at hg
    rcases List.mem_cons.1 hm with h|h
    ·cases h;exact hi rfl
    ·exact ih h hg
def mark (l:Array Bool):List Nat→Array Bool
 | []=>l
 | i::r=>mark (l.setIfInBounds i true) r
theorem mark_get:∀ (U:List Nat) (l:Array Bool) (i:Nat),(mark l U)[i]?=(l[i]?).map (fun b=>b || U.contains i)
 | [],l,i=>by simp [mark]
 | j::r,l,i=>by
  rw [mark,mark_get r]
  by_cases h:j=i
  ·subst h;rcases Nat.lt_or_ge j l.size with h1|h1
   ·simp [h1]
   ·rw [Array.getElem?_eq_none (by simpa using h1),Array.getElem?_eq_none h1];rfl
  ·rw [Array.getElem?_setIfInBounds_ne h]
   congr 1
   funext b
   have h':¬ i=j:=fun h'=>h h'.symm
   simp [h']
def nodupB:List Nat→Bool
 | []=>true
 | i::r=>!r.contains i && nodupB r
theorem nodupB_spec:∀ {l:List Nat},nodupB l=true→l.Nodup
 | [],_=>List.nodup_nil
 | i::r,h=>by
  simp only [nodupB,Bool.and_eq_true,Bool.not_eq_true'] at h
  exact List.nodup_cons.2 ⟨by simpa using h.1,nodupB_spec h.2⟩
variable {Q:Goal} {R0:List Res} {T:List Nat} {n:Nat} {l0:Array Bool}
end
end Go.Bs
namespace Go.Bs
structure DOp where
 i:Nat
 d:Nat
 eats:List Nat
 ok:Value→Prop
 mem:Value→List Res
section
variable (P:Program) (N:Fr) (ops:Array Oper) (e:World) (σ0:Env) (L0:List Res)
def GuardOk (o:Oper):Prop:=o.guard=none∨∃ j want,o.guard=some (j,want)∧wants σ0 ops j want=some true
end
def bindsOn (o:Oper) (k:Nat):Bool:=o.after.any fun ed=>Region.binds .any ed && ed.on == k
theorem bindsOn_spec {o:Oper} {k:Nat} (h:bindsOn o k=true):∃ ed∈o.after,Region.binds .any ed=true∧ed.on=k:=by
 obtain ⟨ed,h1,h2⟩:=Array.any_eq_true'.1 h;simp only [Bool.and_eq_true,beq_iff_eq] at h2
 exact ⟨ed,h1,h2.1,h2.2⟩
theorem nodup_len:∀ {U W:List Nat},U.Nodup→(∀ i∈U,i∈W)→U.length≤W.length
 | [],W,_,_=>Nat.zero_le _
 | x::r,W,hn,hs=>by
  have h1:=List.nodup_cons.1 hn;have h2:r.length≤(W.erase x).length:=nodup_len h1.2 fun i hi=>(List.mem_erase_of_ne (by rintro rfl;exact h1.1 hi)).2 (hs i (List.mem_cons_of_mem _ hi))
  have h3:=List.length_erase_of_mem (hs x (List.mem_cons_self ..));have h4:=List.length_pos_of_mem (hs x (List.mem_cons_self ..));rw [List.length_cons]
  omega
theorem nodup_all {U W:List Nat} (hn:U.Nodup) (hs:∀ i∈U,i∈W) (hl:W.length≤U.length):∀ i∈W,i∈U:=fun i hi=>by
 refine Classical.byContradiction fun hno=>?_
 have h2:=nodup_len (W:=W.erase i) hn fun j hj=>(List.mem_erase_of_ne (by rintro rfl;exact hno hj)).2 (hs j hj)
 have h3:=List.length_erase_of_mem hi;have h4:=List.length_pos_of_mem hi
 omega
theorem ent_app_drop {L0:List Res}:∀ (L:List Res),Ent (L++L0) L0
 | []=>Ent.rfl
 | _::L=>Ent.drop (ent_app_drop L)
section
variable {P:Program} {N:Fr} {ops:Array Oper} {e:World} {σ0:Env} {L0:List Res} {T:List Nat} {R0:List Res} {n:Nat} {l0:Array Bool} {Q:Goal}
end
end Go.Bs
