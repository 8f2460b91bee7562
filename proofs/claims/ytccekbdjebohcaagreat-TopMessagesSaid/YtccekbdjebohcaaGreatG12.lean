/- TopMessages returns true for any arguments; nothing of the old memory is turned. No condition. -/
import Derived.Test.YtccekbdjebohcaaGreatG11
set_option linter.unusedVariables false
set_option linter.unusedSimpArgs false
namespace Go.Bs
def lk:Nat→(Nat→Nat)→Nat
 | 0,_=>0
 | n+1,f=>f 0+2 ^ 64*lk n fun i=>f (i+1)
abbrev pk (n:Nat) (f:Nat→UInt32):Nat:=lk n fun i=>(f i).toNat
theorem kK {n:Nat} {f g:Nat→UInt32} (h:∀ i,f i=g i):pk n f=pk n g:=congrArg (pk n) (funext h)
def l3 (n:Nat):Nat:=lk n fun _=>4294967295
theorem mm (n:Nat) (f:Nat→UInt32):pk (n+1) f=(f 0).toNat+2 ^ 64*pk n fun i=>f (i+1):=rfl
theorem gZ (n:Nat) (f:Nat→Nat):lk (n+1) f=f 0+2 ^ 64*lk n fun i=>f (i+1):=rfl
theorem gx {x:Nat} (X:Nat) (h:x<2 ^ 64) (j:Nat):(x+2 ^ 64*X).testBit j=if j<64 then x.testBit j else X.testBit (j - 64):=by
 rw [Nat.add_comm,Nat.testBit_two_pow_mul_add X h]
theorem FU {x y X Y:Nat} (hx:x<2 ^ 64) (hy:y<2 ^ 64):(x+2 ^ 64*X) &&& (y+2 ^ 64*Y)=(x &&& y)+2 ^ 64*(X &&& Y):=by
 apply Nat.eq_of_testBit_eq;intro j;rw [Nat.testBit_and,gx _ hx,gx _ hy,gx _ (Nat.lt_of_le_of_lt Nat.and_le_left hx),Nat.testBit_and,Nat.testBit_and]
 split<;>rfl
theorem PW {x y X Y:Nat} (hx:x<2 ^ 64) (hy:y<2 ^ 64):(x+2 ^ 64*X) ||| (y+2 ^ 64*Y)=(x ||| y)+2 ^ 64*(X ||| Y):=by
 apply Nat.eq_of_testBit_eq;intro j;rw [Nat.testBit_or,gx _ hx,gx _ hy,gx _ (Nat.or_lt_two_pow hx hy),Nat.testBit_or,Nat.testBit_or]
 split<;>rfl
theorem NS {x y X Y:Nat} (hx:x<2 ^ 64) (hy:y<2 ^ 64):(x+2 ^ 64*X) ^^^ (y+2 ^ 64*Y)=(x ^^^ y)+2 ^ 64*(X ^^^ Y):=by
 apply Nat.eq_of_testBit_eq;intro j;rw [Nat.testBit_xor,gx _ hx,gx _ hy,gx _ (Nat.xor_lt_two_pow hx hy),Nat.testBit_xor,Nat.testBit_xor]
 split<;>rfl
theorem lS (x:UInt32):x.toNat<2 ^ 64:=Nat.lt_trans x.toNat_lt (by decide)
theorem vX:∀ (n:Nat) (f g:Nat→UInt32),pk n f &&& pk n g=pk n fun i=>f i &&& g i
 | 0,_,_=>by show 0 &&& 0=0;decide
 | n+1,f,g=>by
  rw [mm,mm,mm,FU (lS _) (lS _),vX n,UInt32.toNat_and]
theorem FV:∀ (n:Nat) (f g:Nat→UInt32),pk n f ||| pk n g=pk n fun i=>f i ||| g i
 | 0,_,_=>by show 0 ||| 0=0;decide
 | n+1,f,g=>by
  rw [mm,mm,mm,PW (lS _) (lS _),FV n,UInt32.toNat_or]
theorem lj:∀ (n:Nat) (f g:Nat→UInt32),pk n f ^^^ pk n g=pk n fun i=>f i ^^^ g i
 | 0,_,_=>by show 0 ^^^ 0=0;decide
 | n+1,f,g=>by
  rw [mm,mm,mm,NS (lS _) (lS _),lj n,UInt32.toNat_xor]
theorem mZ:∀ (n:Nat) (f g:Nat→Nat),lk n f+lk n g=lk n fun i=>f i+g i
 | 0,_,_=>rfl
 | n+1,f,g=>by
  rw [gZ,gZ,gZ,← mZ n]
  omega
theorem Dp:∀ (n:Nat) (f:Nat→Nat) (k:Nat),lk n f*k=lk n fun i=>f i*k
 | 0,_,_=>Nat.zero_mul _
 | n+1,f,k=>by
  rw [gZ,gZ,← Dp n,Nat.add_mul,Nat.mul_assoc]
theorem Tn (x:Nat):x &&& 4294967295=x % 2 ^ 32:=Nat.and_two_pow_sub_one_eq_mod x 32
theorem rl:∀ (n:Nat) (f:Nat→Nat),(∀ i,f i<2 ^ 64)→lk n f &&& l3 n=pk n fun i=>UInt32.ofNat (f i)
 | 0,_,_=>by show 0 &&& 0=0;decide
 | n+1,f,h=>by
  show (f 0+2 ^ 64*lk n _) &&& (4294967295+2 ^ 64*l3 n)=_
  rw [FU (h 0) (by decide),rl n _ fun i=>h (i+1),Tn]
  show _=(UInt32.ofNat (f 0)).toNat+_
  rw [UInt32.toNat_ofNat']
theorem uO (n:Nat) (k:UInt32):pk n (fun _=>k)=lk n (fun _=>1)*k.toNat:=by rw [Dp];simp [pk]
theorem To (n:Nat):l3 n=lk n (fun _=>1)*4294967295:=by rw [Dp];simp [l3]
theorem Tp (n:Nat):l3 n=pk n fun _=>4294967295:=rfl
theorem z6 (n:Nat) (f:Nat→UInt32) (k:Nat) (hk:k<32):(pk n f <<< k) &&& l3 n=pk n fun i=>f i <<< UInt32.ofNat k:=by
 rw [Nat.shiftLeft_eq,Dp,rl]
 ·congr 1;funext i
  have h:UInt32.ofNat ((f i).toNat*2 ^ k)=f i <<< UInt32.ofNat k:=by
   apply UInt32.toNat_inj.1;rw [UInt32.toNat_ofNat',UInt32.toNat_shiftLeft,UInt32.toNat_ofNat_of_lt' (Nat.lt_trans hk (by decide)),Nat.mod_eq_of_lt hk,Nat.shiftLeft_eq]
  rw [h]
 ·intro i;have h1:=(f i).toNat_lt;have h2:2 ^ k≤2 ^ 32:=Nat.pow_le_pow_right (by decide) zo
  calc (f i).toNat*2 ^ k<2 ^ 32*2 ^ k:=Nat.mul_lt_mul_of_pos_right h1 (Nat.two_pow_pos k)
   _≤2 ^ 32*2 ^ 32:=Nat.mul_le_mul_left _ h2
   _=2 ^ 64:=by decide
theorem oC (k:Nat) (hk:k<32):∀ (n:Nat) (f:Nat→UInt32),(pk n f >>> k) &&& l3 n=pk n fun i=>f i >>> UInt32.ofNat k
 | 0,_=>by show (0 >>> k) &&& 0=0;rw [Nat.and_zero]
 | n+1,f=>by
  have ih:=oC k hk n fun i=>f (i+1)
  have hm:((f 0) >>> UInt32.ofNat k).toNat=(f 0).toNat >>> k:=by
   rw [UInt32.toNat_shiftRight,UInt32.toNat_ofNat_of_lt' (Nat.lt_trans hk (by decide)),Nat.mod_eq_of_lt hk]
  apply Nat.eq_of_testBit_eq;intro j
  show Nat.testBit ((((f 0).toNat+2 ^ 64*pk n fun i=>f (i+1)) >>> k) &&& (4294967295+2 ^ 64*l3 n)) j=Nat.testBit (((f 0) >>> UInt32.ofNat k).toNat+2 ^ 64*pk n fun i=>f (i+1) >>> UInt32.ofNat k) j
  rw [← ih,Nat.testBit_and,Nat.testBit_shiftRight,gx _ (lS _),gx _ (by decide),gx _ (lS _),hm]
  by_cases h1:j<64
  ·rw [aI h1,aI h1,show (4294967295:Nat)=2 ^ 32 - 1 by decide,Nat.testBit_two_pow_sub_one,Nat.testBit_shiftRight]
   by_cases h2:j<32
   ·rw [aI zo,ay h2,Bool.and_true]
   ·rw [aq h2,Bool.and_false,Nat.testBit_lt_two_pow];exact Nat.lt_of_lt_of_le (f 0).toNat_lt (Nat.pow_le_pow_right (by decide) zo)
  ·rw [aB h1,aB h1,aB zo,Nat.testBit_and,Nat.testBit_shiftRight,show k+j - 64=k+(j - 64) by omega]
theorem Dq:∀ (m n:Nat) (f:Nat→Nat),(∀ i,f i<2 ^ 64)→lk m f=lk (m+n) f % 2 ^ (64*m)
 | 0,n,f,_=>by show 0=_;rw [Nat.mul_zero,Nat.pow_zero,Nat.mod_one]
 | m+1,n,f,h=>by
  rw [show m+1+n=m+n+1 by omega,gZ,gZ,Dq m n _ fun i=>h (i+1),Nat.mul_add,Nat.pow_add,Nat.mul_one,Nat.mul_comm (2 ^ (64*m)) (2 ^ 64),Nat.mod_mul];have h0:=h 0
  generalize lk (m+n) _=X
  rw [Nat.add_mul_mod_self_left,Nat.mod_eq_of_lt h0,Nat.add_mul_div_left _ _ (by decide),Nat.div_eq_of_lt h0,aC]
theorem Dr:∀ (m n:Nat) (f:Nat→Nat),(∀ i,f i<2 ^ 64)→lk n (fun i=>f (m+i))=lk (m+n) f >>> (64*m)
 | 0,n,f,_=>by rw [aC,Nat.mul_zero,Nat.shiftRight_zero];congr 1;funext i;rw [aC]
 | m+1,n,f,h=>by
  have ih:=Dr m n (fun i=>f (i+1)) fun i=>h (i+1)
  have h0:=h 0;rw [show m+1+n=m+n+1 by omega,gZ,Nat.mul_add,Nat.mul_one,Nat.add_comm (64*m) 64,Nat.shiftRight_add]
  rw [show (f 0+2 ^ 64*lk (m+n) fun i=>f (i+1)) >>> 64=lk (m+n) fun i=>f (i+1) by
   rw [Nat.shiftRight_eq_div_pow,Nat.add_mul_div_left _ _ (by decide),Nat.div_eq_of_lt h0,aC]]
  rw [← ih]
  congr 1;funext i;rw [show m+i+1=m+1+i by omega]
theorem Tq (m n k:Nat) (f:Nat→UInt32):pk n (fun i=>f (m+i))=(pk (m+(n+k)) f >>> (64*m)) % 2 ^ (64*n):=by
 rw [← Dr m (n+k) _ fun i=>lS _,← Dq n k _ fun i=>lS _]
theorem NT:∀ (m n:Nat) (f:Nat→Nat),lk (m+n) f=lk m f+2 ^ (64*m)*lk n fun i=>f (m+i)
 | 0,n,f=>by
  show _=0+_
  rw [aC,aC,Nat.mul_zero,Nat.pow_zero,Nat.one_mul];congr 1;funext i;rw [aC]
 | m+1,n,f=>by
  rw [show m+1+n=m+n+1 by omega,gZ,gZ,NT m n,Nat.mul_add (2 ^ 64),← Nat.mul_assoc,← Nat.pow_add,show 64+64*m=64*(m+1) by omega,Nat.add_assoc]
  congr 4;funext i;rw [show m+i+1=m+1+i by omega]
def uM (m:Nat):Nat→Nat
 | 0=>0
 | k+1=>1+2 ^ (64*m)*uM m k
theorem NU (m:Nat) (g:Nat→Nat) (hm:0<m):∀ k,lk (k*m) (fun i=>g (i % m))=lk m g*uM m k
 | 0=>by rw [Nat.zero_mul];rfl
 | k+1=>by
  rw [show (k+1)*m=m+k*m by rw [Nat.add_mul,Nat.one_mul,Nat.add_comm],NT]
  have h1:lk m (fun i=>g (i % m))=lk m g:=by
   have key:∀ (n o:Nat),n+o≤m→lk n (fun i=>g ((o+i) % m))=lk n (fun i=>g (o+i)):=by
    intro n
    induction n with
    | zero=>intro o _;rfl
    | succ n ih =>
     intro o ho;rw [gZ,gZ,Nat.add_zero,Nat.mod_eq_of_lt zo];have:=ih (o+1) zo;rw [show (fun i=>g ((o+(i+1)) % m))=fun i=>g ((o+1+i) % m) by funext i;rw [show o+(i+1)=o+1+i by omega],this]
     congr 3;funext i;rw [show o+(i+1)=o+1+i by omega]
   have:=key m 0 zo
   simpa using this
  have h2:(fun i=>g ((m+i) % m))=fun i=>g (i % m):=by funext i;rw [Nat.add_mod_left]
  rw [h1,h2,NU m g hm k]
  show _=lk m g*(1+2 ^ (64*m)*uM m k)
  rw [Nat.mul_add,Nat.mul_one,Nat.mul_left_comm]
def force {α:Type} (n:Nat) (k:Nat→α):α:=Nat.rec (k 0) (fun m _=>k (m+1)) n
theorem force_eq {α:Type} (n:Nat) (k:Nat→α):force n k=k n:=by cases n<;>rfl
def vr (A r s:Nat):Nat:=Nat.lor (Nat.shiftRight A r) (Nat.shiftLeft A s)
theorem rV (n:Nat) (f:Nat→UInt32) (r s:Nat) (hr:0<r∧r<32) (hs:s=32 - r):vr (pk n f) r s &&& l3 n=pk n fun i=>tG (f i) r:=by
 subst hs
 show (pk n f >>> r ||| pk n f <<< (32 - r)) &&& l3 n=_
 rw [Nat.and_or_distrib_right,oC r hr.2,z6 n f (32 - r) zo,FV]
 rfl
def Tr (M A:Nat):Nat:=Nat.land (Nat.xor (Nat.xor (vr A 2 30) (vr A 13 19)) (vr A 22 10)) M
def Ts (M A:Nat):Nat:=Nat.land (Nat.xor (Nat.xor (vr A 6 26) (vr A 11 21)) (vr A 25 7)) M
def Tt (M A:Nat):Nat:=Nat.land (Nat.xor (Nat.xor (vr A 7 25) (vr A 18 14)) (Nat.shiftRight A 3)) M
def Tu (M A:Nat):Nat:=Nat.land (Nat.xor (Nat.xor (vr A 17 15) (vr A 19 13)) (Nat.shiftRight A 10)) M
def vch (M E F G:Nat):Nat:=Nat.xor (Nat.land E F) (Nat.land (Nat.xor M E) G)
def Tv (A B C:Nat):Nat:=Nat.xor (Nat.xor (Nat.land A B) (Nat.land A C)) (Nat.land B C)
theorem PX (n:Nat) (f:Nat→UInt32):Tr (l3 n) (pk n f)=pk n fun i=>bs0 (f i):=by
 show ((vr (pk n f) 2 30 ^^^ vr (pk n f) 13 19) ^^^ vr (pk n f) 22 10) &&& l3 n=_
 rw [Nat.and_xor_distrib_right,Nat.and_xor_distrib_right,rV n f 2 30 zo rfl,rV n f 13 19 zo rfl,rV n f 22 10 zo rfl,lj,lj]
 rfl
theorem PY (n:Nat) (f:Nat→UInt32):Ts (l3 n) (pk n f)=pk n fun i=>bs1 (f i):=by
 show ((vr (pk n f) 6 26 ^^^ vr (pk n f) 11 21) ^^^ vr (pk n f) 25 7) &&& l3 n=_
 rw [Nat.and_xor_distrib_right,Nat.and_xor_distrib_right,rV n f 6 26 zo rfl,rV n f 11 21 zo rfl,rV n f 25 7 zo rfl,lj,lj]
 rfl
theorem PZ (n:Nat) (f:Nat→UInt32):Tt (l3 n) (pk n f)=pk n fun i=>TX (f i):=by
 show ((vr (pk n f) 7 25 ^^^ vr (pk n f) 18 14) ^^^ (pk n f >>> 3)) &&& l3 n=_
 rw [Nat.and_xor_distrib_right,Nat.and_xor_distrib_right,rV n f 7 25 zo rfl,rV n f 18 14 zo rfl,oC 3 zo,lj,lj]
 rfl
theorem P0 (n:Nat) (f:Nat→UInt32):Tu (l3 n) (pk n f)=pk n fun i=>TY (f i):=by
 show ((vr (pk n f) 17 15 ^^^ vr (pk n f) 19 13) ^^^ (pk n f >>> 10)) &&& l3 n=_
 rw [Nat.and_xor_distrib_right,Nat.and_xor_distrib_right,rV n f 17 15 zo rfl,rV n f 19 13 zo rfl,oC 10 zo,lj,lj]
 rfl
theorem Tw (n:Nat) (e f g:Nat→UInt32):vch (l3 n) (pk n e) (pk n f) (pk n g)=pk n fun i=>Y7 (e i) (f i) (g i):=by
 show (pk n e &&& pk n f) ^^^ ((l3 n ^^^ pk n e) &&& pk n g)=_
 rw [Tp,lj,vX,vX,lj];unfold Y7
 congr 1
theorem P1 (n:Nat) (a b c:Nat→UInt32):Tv (pk n a) (pk n b) (pk n c)=pk n fun i=>Vg (a i) (b i) (c i):=by
 show ((pk n a &&& pk n b) ^^^ (pk n a &&& pk n c)) ^^^ (pk n b &&& pk n c)=_
 rw [vX,vX,vX,lj,lj]
 rfl
theorem fq (x:UInt32):x.toNat<4294967296:=x.toNat_lt
theorem Ds (n:Nat) (a b:Nat→UInt32):(pk n a+pk n b) &&& l3 n=pk n fun i=>a i+b i:=by
 rw [mZ,rl]
 ·congr 1
 ·intro i;have h1:=fq (a i);have h2:=fq (b i)
  omega
theorem abY (n:Nat) (a b c:Nat→UInt32):(pk n a+pk n b+pk n c) &&& l3 n=pk n fun i=>a i+b i+c i:=by
 rw [mZ,mZ,rl]
 ·congr 1;funext i;rw [UInt32.ofNat_add,UInt32.ofNat_add,UInt32.ofNat_toNat,UInt32.ofNat_toNat,UInt32.ofNat_toNat]
 ·intro i;have h1:=fq (a i);have h2:=fq (b i);have h3:=fq (c i)
  omega
theorem abZ (n:Nat) (a b c d:Nat→UInt32):(pk n a+pk n b+pk n c+pk n d) &&& l3 n=pk n fun i=>a i+b i+c i+d i:=by
 rw [mZ,mZ,mZ,rl]
 ·congr 1;funext i;rw [UInt32.ofNat_add,UInt32.ofNat_add,UInt32.ofNat_add,UInt32.ofNat_toNat,UInt32.ofNat_toNat,UInt32.ofNat_toNat,UInt32.ofNat_toNat]
 ·intro i;have h1:=fq (a i);have h2:=fq (b i);have h3:=fq (c i);have h4:=fq (d i)
  omega
theorem ab0 (n:Nat) (a b c d e:Nat→UInt32):(pk n a+pk n b+pk n c+pk n d+pk n e) &&& l3 n=pk n fun i=>a i+b i+c i+d i+e i:=by
 rw [mZ,mZ,mZ,mZ,rl]
 ·congr 1;funext i;rw [UInt32.ofNat_add,UInt32.ofNat_add,UInt32.ofNat_add,UInt32.ofNat_add,UInt32.ofNat_toNat,UInt32.ofNat_toNat,UInt32.ofNat_toNat,UInt32.ofNat_toNat,UInt32.ofNat_toNat]
 ·intro i;have h1:=fq (a i);have h2:=fq (b i);have h3:=fq (c i);have h4:=fq (d i);have h5:=fq (e i)
  omega
structure V8 where
 a:Nat
 b:Nat
 c:Nat
 d:Nat
 e:Nat
 f:Nat
 g:Nat
 h:Nat
def uX (n:Nat) (s:Nat→S8):V8:=⟨pk n fun i=>(s i).a,pk n fun i=>(s i).b,pk n fun i=>(s i).c,pk n fun i=>(s i).d,pk n fun i=>(s i).e,pk n fun i=>(s i).f,pk n fun i=>(s i).g,pk n fun i=>(s i).h⟩
def Tx (M:Nat) (s:V8) (a b c d e f g h:Nat):V8 :=
 force (Nat.land (Nat.add s.a a) M) fun a=>force (Nat.land (Nat.add s.b b) M) fun b=>force (Nat.land (Nat.add s.c c) M) fun c=>force (Nat.land (Nat.add s.d d) M) fun d =>
 force (Nat.land (Nat.add s.e e) M) fun e=>force (Nat.land (Nat.add s.f f) M) fun f=>force (Nat.land (Nat.add s.g g) M) fun g=>force (Nat.land (Nat.add s.h h) M) fun h=>⟨a,b,c,d,e,f,g,h⟩
def Uq (O M:Nat) (s:V8):List Nat→Nat→Nat→Nat→Nat→Nat→Nat→Nat→Nat→Nat→Nat→Nat→Nat→Nat→Nat→Nat→Nat→Nat→Nat→Nat→Nat→Nat→Nat→Nat→Nat→V8
 | [],a,b,c,d,e,f,g,h,_,_,_,_,_,_,_,_,_,_,_,_,_,_,_,_=>Tx M s a b c d e f g h
 | k::ks,a,b,c,d,e,f,g,h,w0,w1,w2,w3,w4,w5,w6,w7,w8,w9,Ur,Us,Ut,Uu,P2,Uv =>
  force (Nat.land (Nat.add (Nat.add (Nat.add (Nat.add h (Ts M e)) (vch M e f g)) (Nat.mul O k)) w0) M) fun x =>
  force (Nat.land (Nat.add d x) M) fun e'=>force (Nat.land (Nat.add (Nat.add x (Tr M a)) (Tv a b c)) M) fun a' =>
  force (Nat.land (Nat.add (Nat.add (Nat.add w0 (Tt M w1)) w9) (Tu M P2)) M) fun w' =>
  Uq O M s ks a' a b c e' e f g w1 w2 w3 w4 w5 w6 w7 w8 w9 Ur Us Ut Uu P2 Uv w'
def Ty:List Nat:=[1116352408,1899447441,3049323471,3921009573,961987163,1508970993,2453635748,2870763221,3624381080,310598401,607225278,1426881987,1925078388,2162078206,2614888103,3248222580,3835390401,4022224774,264347078,604807628,770255983,1249150122,1555081692,1996064986,2554220882,2821834349,2952996808,3210313671,3336571891,3584528711,113926993,338241895,666307205,773529912,1294757372,1396182291,1695183700,1986661051,2177026350,2456956037,2730485921,2820302411,3259730800,3345764771,3516065817,3600352804,4094571909,275423344,430227734,506948616,659060556,883997877,958139571,1322822218,1537002063,1747873779,1955562222,2024104815,2227730452,2361852424,2428436474,2756734187,3204031479,3329325298]
theorem NV:kw.map UInt32.toNat=Ty:=by decide +kernel
def P3 (O M:Nat) (s:V8) (w:Nat→Nat):V8:=match s with
 | ⟨a,b,c,d,e,f,g,h⟩=>force (w 0) fun w0=>force (w 1) fun w1=>force (w 2) fun w2=>force (w 3) fun w3=>force (w 4) fun w4=>force (w 5) fun w5=>force (w 6) fun w6=>force (w 7) fun w7 =>
  force (w 8) fun w8=>force (w 9) fun w9=>force (w 10) fun Ur=>force (w 11) fun Us=>force (w 12) fun Ut=>force (w 13) fun Uu=>force (w 14) fun P2=>force (w 15) fun Uv =>
  Uq O M ⟨a,b,c,d,e,f,g,h⟩ Ty a b c d e f g h w0 w1 w2 w3 w4 w5 w6 w7 w8 w9 Ur Us Ut Uu P2 Uv
theorem sU (b:List UInt8) (t m:Nat) (h:t<16+m):∀ d,(sched b (m+d)).getD t 0=(sched b m).getD t 0
 | 0=>rfl
 | d+1=>by
  show (sched b (m+d)++[_]).getD t 0=_
  rw [aA,List.getElem?_append_left (by rw [gG];omega),← aA,sU b t m h d]
def nJ (b:List UInt8) (t:Nat):UInt32:=(sched b t).getD t 0
theorem sV (b:List UInt8) {t m:Nat} (h:t<16+m):(sched b m).getD t 0=nJ b t:=by
 unfold nJ;rcases Nat.le_total m t with h1|h1
 ·obtain ⟨d,rfl⟩:=Nat.le.dest h1;exact (sU b _ m h d).symm
 ·obtain ⟨d,rfl⟩:=Nat.le.dest h1;exact sU b t t zo d
theorem NW (b:List UInt8) (t:Nat):nJ b (t+16)=nJ b t+TX (nJ b (t+1))+nJ b (t+9)+TY (nJ b (t+14)):=by
 rw [← sV b (t:=t+16) (m:=t+1) zo]
 show (sched b t++[Qw (sched b t)]).getD (t+16) 0=_
 rw [aA,List.getElem?_append_right (by rw [gG];omega),gG,show t+16 - (16+t)=0 by omega]
 show Qw (sched b t)=_
 unfold Qw;rw [gG,show 16+t - 16=t by omega,show 16+t - 15=t+1 by omega,show 16+t - 7=t+9 by omega,show 16+t - 2=t+14 by omega,sV b zo,sV b zo,sV b zo,sV b zo]
theorem Lo (b:List UInt8) {t:Nat} (h:t<16):nJ b t=wd b t:=by
 rw [← sV b (m:=0) zo]
 show ((List.range 16).map (wd b)).getD t 0=_
 rw [aA,aL,List.getElem?_range h]
 rfl
theorem P4 (n:Nat) (h s:Nat→S8):Tx (l3 n) (uX n h) (pk n fun i=>(s i).a) (pk n fun i=>(s i).b) (pk n fun i=>(s i).c) (pk n fun i=>(s i).d) (pk n fun i=>(s i).e) (pk n fun i=>(s i).f) (pk n fun i=>(s i).g) (pk n fun i=>(s i).h)=uX n fun i=>(h i).add (s i):=by
 unfold Tx;simp only [force_eq]
 show V8.mk ((pk n (fun i=>(h i).a)+pk n (fun i=>(s i).a)) &&& l3 n) ((pk n (fun i=>(h i).b)+pk n (fun i=>(s i).b)) &&& l3 n) ((pk n (fun i=>(h i).c)+pk n (fun i=>(s i).c)) &&& l3 n) ((pk n (fun i=>(h i).d)+pk n (fun i=>(s i).d)) &&& l3 n) ((pk n (fun i=>(h i).e)+pk n (fun i=>(s i).e)) &&& l3 n) ((pk n (fun i=>(h i).f)+pk n (fun i=>(s i).f)) &&& l3 n) ((pk n (fun i=>(h i).g)+pk n (fun i=>(s i).g)) &&& l3 n) ((pk n (fun i=>(h i).h)+pk n (fun i=>(s i).h)) &&& l3 n)=_
 rw [Ds,Ds,Ds,Ds,Ds,Ds,Ds,Ds]
 rfl
def jW (n:Nat):Nat:=lk n fun _=>1
theorem P5 {t:Nat} (h:t<64):Ty.drop t=(kw.getD t 0).toNat::Ty.drop (t+1):=by
 have hl:t<Ty.length:=by rw [← NV,ab,A7];exact h
 rw [List.drop_eq_getElem_cons hl]
 congr 1
 simp only [← NV,List.getElem_map];rw [aA,ae (by rw [A7];exact h)]
 rfl
theorem WW (n:Nat) (h0:V8) (ks:List Nat) (k:UInt32) (s s':Nat→S8) (w0 w1 w2 w3 w4 w5 w6 w7 w8 w9 Ur Us Ut Uu P2 Uv w16:Nat→UInt32) (h1:∀ i,s' i=JN (s i) k (w0 i)) (h2:∀ i,w16 i=w0 i+TX (w1 i)+w9 i+TY (P2 i)) :
 Uq (jW n) (l3 n) h0 (k.toNat::ks) (pk n fun i=>(s i).a) (pk n fun i=>(s i).b) (pk n fun i=>(s i).c) (pk n fun i=>(s i).d) (pk n fun i=>(s i).e) (pk n fun i=>(s i).f) (pk n fun i=>(s i).g) (pk n fun i=>(s i).h) (pk n w0) (pk n w1) (pk n w2) (pk n w3) (pk n w4) (pk n w5) (pk n w6) (pk n w7) (pk n w8) (pk n w9) (pk n Ur) (pk n Us) (pk n Ut) (pk n Uu) (pk n P2) (pk n Uv)=Uq (jW n) (l3 n) h0 ks (pk n fun i=>(s' i).a) (pk n fun i=>(s' i).b) (pk n fun i=>(s' i).c) (pk n fun i=>(s' i).d) (pk n fun i=>(s' i).e) (pk n fun i=>(s' i).f) (pk n fun i=>(s' i).g) (pk n fun i=>(s' i).h) (pk n w1) (pk n w2) (pk n w3) (pk n w4) (pk n w5) (pk n w6) (pk n w7) (pk n w8) (pk n w9) (pk n Ur) (pk n Us) (pk n Ut) (pk n Uu) (pk n P2) (pk n Uv) (pk n w16):=by
 have hk:Nat.mul (jW n) k.toNat=pk n fun _=>k:=(uO n _).symm
 have hX:Nat.land (Nat.add (Nat.add (Nat.add (Nat.add (pk n fun i=>(s i).h) (Ts (l3 n) (pk n fun i=>(s i).e))) (vch (l3 n) (pk n fun i=>(s i).e) (pk n fun i=>(s i).f) (pk n fun i=>(s i).g))) (Nat.mul (jW n) k.toNat)) (pk n w0)) (l3 n)=pk n fun i=>Mb (s i) k (w0 i):=by
  rw [hk,PY,Tw];exact ab0 n _ _ _ _ _
 have hE:Nat.land (Nat.add (pk n fun i=>(s i).d) (pk n fun i=>Mb (s i) k (w0 i))) (l3 n)=pk n fun i=>(s' i).e:=by
  refine (Ds n _ _).trans ?_;simp only [h1,JN]
 have hA:Nat.land (Nat.add (Nat.add (pk n fun i=>Mb (s i) k (w0 i)) (Tr (l3 n) (pk n fun i=>(s i).a))) (Tv (pk n fun i=>(s i).a) (pk n fun i=>(s i).b) (pk n fun i=>(s i).c))) (l3 n)=pk n fun i=>(s' i).a:=by
  rw [PX,P1];refine (abY n _ _ _).trans ?_;simp only [h1,JN]
 have hW:Nat.land (Nat.add (Nat.add (Nat.add (pk n w0) (Tt (l3 n) (pk n w1))) (pk n w9)) (Tu (l3 n) (pk n P2))) (l3 n)=pk n w16:=by
  rw [PZ,P0];refine (abZ n _ _ _ _).trans ?_;simp only [← h2]
 rw [Uq];simp only [force_eq];rw [hX,hE,hA,hW];simp only [h1,JN]
theorem NX (n:Nat) (hs:Nat→S8) (bs:Nat→List UInt8):∀ r t,t+r=64 →
 Uq (jW n) (l3 n) (uX n hs) (Ty.drop t) (pk n fun i=>(lv (hs i) (sched (bs i) 48) t).a) (pk n fun i=>(lv (hs i) (sched (bs i) 48) t).b) (pk n fun i=>(lv (hs i) (sched (bs i) 48) t).c) (pk n fun i=>(lv (hs i) (sched (bs i) 48) t).d) (pk n fun i=>(lv (hs i) (sched (bs i) 48) t).e) (pk n fun i=>(lv (hs i) (sched (bs i) 48) t).f) (pk n fun i=>(lv (hs i) (sched (bs i) 48) t).g) (pk n fun i=>(lv (hs i) (sched (bs i) 48) t).h)
  (pk n fun i=>nJ (bs i) (t+0)) (pk n fun i=>nJ (bs i) (t+1)) (pk n fun i=>nJ (bs i) (t+2)) (pk n fun i=>nJ (bs i) (t+3)) (pk n fun i=>nJ (bs i) (t+4)) (pk n fun i=>nJ (bs i) (t+5)) (pk n fun i=>nJ (bs i) (t+6)) (pk n fun i=>nJ (bs i) (t+7)) (pk n fun i=>nJ (bs i) (t+8)) (pk n fun i=>nJ (bs i) (t+9)) (pk n fun i=>nJ (bs i) (t+10)) (pk n fun i=>nJ (bs i) (t+11)) (pk n fun i=>nJ (bs i) (t+12)) (pk n fun i=>nJ (bs i) (t+13)) (pk n fun i=>nJ (bs i) (t+14)) (pk n fun i=>nJ (bs i) (t+15))
 = uX n fun i=>jh (hs i) (bs i)
 | 0,t,h=>by
  obtain rfl:t=64:=by omega
  have h0:Ty.drop 64=[]:=by decide
  rw [h0];exact P4 n hs fun i=>lv (hs i) (sched (bs i) 48) 64
 | r+1,t,h=>by
  have ih:=NX n hs bs r (t+1) zo;rw [P5 (show t<64 by omega)];refine (WW n _ _ _ (fun i=>lv (hs i) (sched (bs i) 48) t) (fun i=>lv (hs i) (sched (bs i) 48) (t+1)) (fun i=>nJ (bs i) (t+0)) (fun i=>nJ (bs i) (t+1)) (fun i=>nJ (bs i) (t+2)) (fun i=>nJ (bs i) (t+3)) (fun i=>nJ (bs i) (t+4)) (fun i=>nJ (bs i) (t+5)) (fun i=>nJ (bs i) (t+6)) (fun i=>nJ (bs i) (t+7)) (fun i=>nJ (bs i) (t+8)) (fun i=>nJ (bs i) (t+9)) (fun i=>nJ (bs i) (t+10)) (fun i=>nJ (bs i) (t+11)) (fun i=>nJ (bs i) (t+12)) (fun i=>nJ (bs i) (t+13)) (fun i=>nJ (bs i) (t+14)) (fun i=>nJ (bs i) (t+15)) (fun i=>nJ (bs i) (t+16)) ?_ ?_).trans ih
  ·intro i
   show JN _ _ _=_
   rw [sV (bs i) (show t<16+48 by omega)]
   rfl
  ·intro i;exact NW (bs i) t
theorem P6 (n:Nat) (hs:Nat→S8) (bs:Nat→List UInt8) (w:Nat→Nat) (h:∀ j,j<16→w j=pk n fun i=>wd (bs i) j):P3 (jW n) (l3 n) (uX n hs) w=uX n fun i=>jh (hs i) (bs i):=by
 have h2:∀ j,j<16→w j=pk n fun i=>nJ (bs i) j:=fun j hj=>by rw [h j hj];congr 1;funext i;rw [Lo _ hj]
 unfold P3 uX;simp only [force_eq];rw [h2 0 zo,h2 1 zo,h2 2 zo,h2 3 zo,h2 4 zo,h2 5 zo,h2 6 zo,h2 7 zo,h2 8 zo,h2 9 zo,h2 10 zo,h2 11 zo,h2 12 zo,h2 13 zo,h2 14 zo,h2 15 zo];exact NX n hs bs 64 0 rfl
def fb (h:S8) (l:List UInt8):Nat→S8
 | 0=>h
 | c+1=>jh (fb h l c) ((l.drop (64*c)).take 64)
theorem P7 (h:S8) (l:List UInt8) (c:Nat):fb h l (c+1)=jh (fb h l c) ((l.drop (64*c)).take 64):=rfl
theorem Jq (h:S8) (l:List UInt8):∀ c,64*c≤l.length→iV h l=iV (fb h l c) (l.drop (64*c))
 | 0,_=>by rw [Nat.mul_zero,List.drop_zero];rfl
 | c+1,hc=>by
  rw [Jq h l c zo,oO (by rw [aO];omega),List.drop_drop,show 64*c+64=64*(c+1) by omega]
  rfl
theorem Tz {h:S8} {l:List UInt8} {k:Nat} (hl:l.length=64*k):iV h l=fb h l k:=by
 rw [Jq h l k zo,List.drop_of_length_le zo,vv (by decide)]
theorem NY (l:List UInt8) (c j:Nat) (hj:j<16):wd ((l.drop (64*c)).take 64) j=wd l (16*c+j):=by
 have h:∀ x,x<64→((l.drop (64*c)).take 64).getD x 0=l.getD (64*c+x) 0:=fun x hx=>by
  rw [aA,List.getElem?_take_of_lt hx,List.getElem?_drop,← aA]
 unfold wd;rw [h _ zo,h _ zo,h _ zo,h _ zo,show 4*(16*c+j)=64*c+4*j by omega]
 rfl
def WY (O M:Nat) (W:Nat→Nat) (s:V8):Nat→V8
 | 0=>s
 | c+1=>P3 O M (WY O M W s c) fun j=>W (16*c+j)
theorem NZ (O M:Nat) (W:Nat→Nat) (s:V8) (c:Nat):WY O M W s (c+1)=P3 O M (WY O M W s c) fun j=>W (16*c+j):=rfl
theorem N0 (n:Nat) (hs:Nat→S8) (ms:Nat→List UInt8) (W:Nat→Nat) (k:Nat) (h:∀ t,t<16*k→W t=pk n fun i=>wd (ms i) t):∀ c,c≤k→WY (jW n) (l3 n) W (uX n hs) c=uX n fun i=>fb (hs i) (ms i) c
 | 0,_=>rfl
 | c+1,hc=>by
  rw [NZ,N0 n hs ms W k h c zo,P6 n _ (fun i=>((ms i).drop (64*c)).take 64)]
  ·simp only [P7]
  ·intro j hj;rw [h _ zo];exact kK fun i=>by rw [NY _ _ _ hj]
theorem uP {b c x:Nat} (h:b=c+1):(1+b*x)*c+1=(x*c+1)*b:=by
 rw [Nat.add_mul,Nat.add_mul,Nat.one_mul,Nat.one_mul,Nat.mul_assoc b,Nat.mul_comm b]
 generalize x*c*b=y
 omega
theorem WZ (n:Nat):jW n=(2 ^ (64*n) - 1) / 18446744073709551615:=by
 have key:∀ n,jW n*18446744073709551615+1=2 ^ (64*n):=by
  intro n
  induction n with
  | zero=>show 0*_+1=1;rw [Nat.zero_mul]
  | succ n ih =>
   have h:jW (n+1)=1+18446744073709551616*jW n:=gZ n _;rw [h,Nat.mul_add 64,Nat.pow_add,← ih,show (2:Nat) ^ (64*1)=18446744073709551616 from rfl];exact uP rfl
 rw [← key n,Nat.add_sub_cancel,Nat.mul_div_cancel _ (by decide)]
def vh (O:Nat):V8:=⟨Nat.mul O 1779033703,Nat.mul O 3144134277,Nat.mul O 1013904242,Nat.mul O 2773480762,Nat.mul O 1359893119,Nat.mul O 2600822924,Nat.mul O 528734635,Nat.mul O 1541459225⟩
theorem W0 (n:Nat):vh (jW n)=uX n fun _=>uV:=by
 have h:∀ k:UInt32,Nat.mul (jW n) k.toNat=pk n fun _=>k:=fun k=>(uO n k).symm
 show V8.mk (Nat.mul (jW n) uV.a.toNat) (Nat.mul (jW n) uV.b.toNat) (Nat.mul (jW n) uV.c.toNat) (Nat.mul (jW n) uV.d.toNat) (Nat.mul (jW n) uV.e.toNat) (Nat.mul (jW n) uV.f.toNat) (Nat.mul (jW n) uV.g.toNat) (Nat.mul (jW n) uV.h.toNat)=_
 rw [h,h,h,h,h,h,h,h]
 rfl
def Ih (n k:Nat) (W:Nat→Nat→Nat→Nat):V8:=force (Nat.div (Nat.sub (Nat.pow 2 (Nat.mul 64 n)) 1) 18446744073709551615) fun O=>force (Nat.mul O 4294967295) fun M=>WY O M (W O M) (vh O) k
theorem uQ (n k:Nat) (W:Nat→Nat→Nat→Nat) (ms:Nat→List UInt8) (h:∀ t,t<16*k→W (jW n) (l3 n) t=pk n fun i=>wd (ms i) t):Ih n k W=uX n fun i=>fb uV (ms i) k:=by
 unfold Ih;simp only [force_eq];have h1:Nat.div (Nat.sub (Nat.pow 2 (Nat.mul 64 n)) 1) 18446744073709551615=jW n:=(WZ n).symm;have h2:Nat.mul (jW n) 4294967295=l3 n:=(To n).symm;rw [h1,h2,W0];exact N0 n _ ms _ k h k (aS k)
theorem mn (X:List UInt8) (j:Nat) (hj:j<4):∀ (us:List UInt32) (t:Nat),t<us.length→(us.flatMap ik++X).getD (4*t+j) 0=(ik (us.getD t 0)).getD j 0
 | u::us,0,_=>by
  rw [aU,aM,aA,List.getElem?_append_left (by show 4*0+j<4;omega),← aA,Nat.mul_zero,aC]
  rfl
 | u::us,t+1,h=>by
  rw [aU,aM,aA,List.getElem?_append_right (by show 4≤_;omega),← aA,show 4*(t+1)+j - (ik u).length=4*t+j by show 4*(t+1)+j - 4=_;omega,
   mn X j hj us t (by rw [aN] at h;omega)]
  rfl
theorem rm:∀ us:List UInt32,(us.flatMap ik).length=4*us.length
 | []=>rfl
 | u::us=>by rw [aU,aa,rm us,aN];show 4+_=_;omega
theorem rn (X:List UInt8) (us:List UInt32) (j:Nat):(us.flatMap ik++X).getD (4*us.length+j) 0=X.getD j 0:=by
 rw [aA,List.getElem?_append_right (by rw [rm];omega),rm,Nat.add_sub_cancel_left,← aA]
theorem W1 (u:UInt32):(ik u).getD 0 0=(u >>> UInt32.ofNat (Int.toNat 24)).toUInt8:=rfl
theorem W2 (u:UInt32):(ik u).getD 1 0=(u >>> UInt32.ofNat (Int.toNat 16)).toUInt8:=rfl
theorem W3 (u:UInt32):(ik u).getD 2 0=(u >>> UInt32.ofNat (Int.toNat 8)).toUInt8:=rfl
theorem W4 (u:UInt32):(ik u).getD 3 0=u.toUInt8:=rfl
def P8 (a b c:UInt8):UInt32:=((a.toUInt32 <<< UInt32.ofNat (Int.toNat 16)) ||| (b.toUInt32 <<< UInt32.ofNat (Int.toNat 8))) ||| c.toUInt32
theorem Ii {a b k:Nat} (h:b<2 ^ k):a <<< k ||| b=a*2 ^ k+b:=by rw [← Nat.shiftLeft_add_eq_or_of_lt h,Nat.shiftLeft_eq]
theorem Jr (a b c:UInt8):(P8 a b c).toNat=a.toNat*65536+b.toNat*256+c.toNat:=by
 have ha:=a.toNat_lt;have hb:=b.toNat_lt;have hc:=c.toNat_lt
 have h1:(a.toUInt32 <<< UInt32.ofNat (Int.toNat 16)).toNat=a.toNat <<< 16:=by
  show (a.toNat <<< 16) % 2 ^ 32=_
  rw [Nat.mod_eq_of_lt (by rw [Nat.shiftLeft_eq];omega)]
 have h2:(b.toUInt32 <<< UInt32.ofNat (Int.toNat 8)).toNat=b.toNat <<< 8:=by
  show (b.toNat <<< 8) % 2 ^ 32=_
  rw [Nat.mod_eq_of_lt (by rw [Nat.shiftLeft_eq];omega)]
 unfold P8;rw [UInt32.toNat_or,UInt32.toNat_or,h1,h2,Nat.or_assoc,show c.toUInt32.toNat=c.toNat from rfl,Ii (by omega:c.toNat<2 ^ 8),Ii zo]
 omega
theorem Dt (b0 a b c:UInt8):(((b0.toUInt32 <<< UInt32.ofNat (Int.toNat 24)) ||| (a.toUInt32 <<< UInt32.ofNat (Int.toNat 16))) ||| (b.toUInt32 <<< UInt32.ofNat (Int.toNat 8))) ||| c.toUInt32=(b0.toUInt32 <<< UInt32.ofNat 24) ||| P8 a b c:=by
 unfold P8;rw [UInt32.or_assoc,UInt32.or_assoc,UInt32.or_assoc]
 rfl
theorem W5 (u:UInt32):P8 (u >>> UInt32.ofNat (Int.toNat 24)).toUInt8 (u >>> UInt32.ofNat (Int.toNat 16)).toUInt8 (u >>> UInt32.ofNat (Int.toNat 8)).toUInt8=u >>> UInt32.ofNat 8:=by
 apply UInt32.toNat_inj.1;rw [Jr]
 show ((u.toNat >>> 24) % 256)*65536+((u.toNat >>> 16) % 256)*256+(u.toNat >>> 8) % 256=u.toNat >>> 8
 have:=u.toNat_lt;rw [Nat.shiftRight_eq_div_pow,Nat.shiftRight_eq_div_pow,Nat.shiftRight_eq_div_pow]
 omega
theorem Rb (u:UInt32):u.toUInt8.toUInt32 <<< UInt32.ofNat 24=u <<< UInt32.ofNat 24:=by
 apply UInt32.toNat_inj.1
 show ((u.toNat % 256) <<< 24) % 2 ^ 32=(u.toNat <<< 24) % 2 ^ 32
 rw [Nat.shiftLeft_eq,Nat.shiftLeft_eq]
 omega
theorem TA (τ:UInt8) (us:List UInt32) (X:List UInt8) (h:0<us.length):wd (τ::(us.flatMap ik++X)) 0=(τ.toUInt32 <<< UInt32.ofNat 24) ||| (us.getD 0 0 >>> UInt32.ofNat 8):=by
 rw [← W5,← Dt,← W1,← W2,← W3,← mn X 0 zo us 0 h,← mn X 1 zo us 0 h,← mn X 2 zo us 0 h]
 rfl
theorem W6 (τ:UInt8) (us:List UInt32) (X:List UInt8) (t:Nat) (h:t+1<us.length):wd (τ::(us.flatMap ik++X)) (t+1)=(us.getD t 0 <<< UInt32.ofNat 24) ||| (us.getD (t+1) 0 >>> UInt32.ofNat 8):=by
 rw [← W5,← Rb,← Dt,← W1,← W2,← W3,← W4,← mn X 0 zo us (t+1) h,← mn X 1 zo us (t+1) h,← mn X 2 zo us (t+1) h,← mn X 3 zo us t zo]
 rfl
theorem TB (τ:UInt8) (us:List UInt32) (X:List UInt8) (t:Nat) (h:us.length=t+1):wd (τ::(us.flatMap ik++X)) (t+1)=(us.getD t 0 <<< UInt32.ofNat 24) ||| P8 (X.getD 0 0) (X.getD 1 0) (X.getD 2 0):=by
 rw [← Rb,← Dt,← W4,← mn X 3 zo us t zo,← rn X us 0,← rn X us 1,← rn X us 2,h]
 rfl
theorem P9 (τ:UInt8) (us:List UInt32) (X:List UInt8) (j:Nat):wd (τ::(us.flatMap ik++X)) (us.length+(j+1))=wd (X.drop 3) j:=by
 have h:∀ x,(τ::(us.flatMap ik++X)).getD (4*(us.length+(j+1))+x) 0=(X.drop 3).getD (4*j+x) 0:=fun x=>by
  rw [show 4*(us.length+(j+1))+x=(4*us.length+(3+(4*j+x)))+1 by omega,aA,List.getElem?_cons_succ,← aA,rn];rw [aA,aA,List.getElem?_drop]
 unfold wd;have h0:=h 0;rw [Nat.add_zero,Nat.add_zero] at h0
 rw [h0,h 1,h 2,h 3]
 rfl
def TC (O M A T:Nat) (u c:Nat→Nat) (t:Nat):Nat:=match t with
 | 0=>Nat.lor (Nat.mul O A) (Nat.land (Nat.shiftRight (u 0) 8) M)
 | t+1=>cond (Nat.blt (t+1) T) (Nat.land (Nat.lor (Nat.shiftLeft (u t) 24) (Nat.shiftRight (u (t+1)) 8)) M) (cond (Nat.beq (t+1) T) (Nat.lor (Nat.land (Nat.shiftLeft (u t) 24) M) (c 0)) (c (Nat.sub (t+1) T)))
theorem N1 (O M A T:Nat) (u c:Nat→Nat):TC O M A T u c 0=(Nat.mul O A ||| ((u 0 >>> 8) &&& M)):=rfl
theorem N3 (O M A T:Nat) (u c:Nat→Nat) (t:Nat):TC O M A T u c (t+1)=cond (Nat.blt (t+1) T) (((u t <<< 24) ||| (u (t+1) >>> 8)) &&& M) (cond (Nat.beq (t+1) T) (((u t <<< 24) &&& M) ||| c 0) (c (t+1 - T))):=rfl
theorem Du (n:Nat) (τ:UInt8) (A T J:Nat) (us:Nat→List UInt32) (X:Nat→List UInt8) (u c:Nat→Nat) (hA:A=(τ.toUInt32 <<< UInt32.ofNat 24).toNat) (hT:0<T) (hl:∀ i,(us i).length=T) (hu:∀ j,j<T→u j=pk n fun i=>(us i).getD j 0)
 (h0:c 0=pk n fun i=>P8 ((X i).getD 0 0) ((X i).getD 1 0) ((X i).getD 2 0)) (hc:∀ j,j<J→c (j+1)=pk n fun i=>wd ((X i).drop 3) j):∀ t,t<T+1+J→TC (jW n) (l3 n) A T u c t=pk n fun i=>wd (τ::((us i).flatMap ik++X i)) t
 | 0,_=>by
  have h1:Nat.mul (jW n) A=pk n fun _=>τ.toUInt32 <<< UInt32.ofNat 24:=by rw [hA];exact (uO n _).symm
  rw [N1];rw [h1,hu 0 hT,oC 8 zo,FV];exact kK fun i=>by rw [TA _ _ _ (by rw [hl];exact hT)]
 | t+1,ht=>by
  rw [N3]
  by_cases h1:t+1<T
  ·rw [show Nat.blt (t+1) T=true by rw [Nat.blt_eq];exact h1];rw [cond_true,hu t zo,hu (t+1) h1,Nat.and_or_distrib_right,oC 8 zo,z6 n _ 24 zo,FV];exact kK fun i=>by rw [W6 _ _ _ _ (by rw [hl];exact h1)]
  ·rw [show Nat.blt (t+1) T=false by rw [← Bool.not_eq_true,Nat.blt_eq];exact h1,cond_false]
   by_cases h2:t+1=T
   ·rw [show Nat.beq (t+1) T=true by rw [h2];exact Nat.beq_refl T];rw [cond_true,hu t zo,z6 n _ 24 zo,h0,FV];exact kK fun i=>by rw [TB _ _ _ _ (by rw [hl];exact h2.symm)]
   ·rw [show Nat.beq (t+1) T=false by rw [← Bool.not_eq_true];exact fun h=>h2 (Nat.eq_of_beq_eq_true h)];rw [cond_false];obtain ⟨j,hj⟩:∃ j,t+1=T+(j+1):=⟨t - T,by omega⟩
    rw [hj,Nat.add_sub_cancel_left,hc j zo];exact kK fun i=>by rw [← hl i,P9]
end Go.Bs
namespace Go.Proofs
open Go.Bs
def sS (τ:UInt8) (us:List UInt32) (X:List UInt8) (k:Nat):S8:=fb uV (τ::(us.flatMap ik++(X++mG (1+(4*us.length+X.length))))) k
theorem FX {τ:UInt8} {us:List UInt32} {X:List UInt8} {k:Nat} (h:1+(4*us.length+(X.length+(9+zs (1+(4*us.length+X.length)))))=64*k):sk (τ::(us.flatMap ik++X))=gX (sS τ us X k):=by
 unfold sk sS;have e:(τ::(us.flatMap ik++X)).length=1+(4*us.length+X.length):=by rw [aN,aa,rm];omega
 rw [e,Tz (k:=k) (by rw [aa,e,D4];omega),List.cons_append,aM]
theorem fU (s:S8):s.list.length=8:=rfl
def kL (k:Nat):Nat:=k % 2*8+k / 2 % 2*4+k / 4 % 2*2+k / 8
def uY (s:Nat):S8:=sS 20 [] (be (s+1) 4) 1
def Oo (i:Nat):S8:=sS 10 (uY (i % 3)).list (be (kL (i % 48 / 3)) 4++[UInt8.ofNat (i / 48 / 2),UInt8.ofNat (i / 48 % 2)]) 1
def uR (i:Nat):S8:=sS 11 (Oo i).list [] 1
def Oq (r:Nat):S8:=sS 12 ((List.range 64).flatMap fun p=>(uR (p*48+r)).list) [] 33
def lN (S:Nat→S8) (m r:Nat):S8:=sS 14 ((S r).list++(S (m+r)).list) [] 2
def TD:Nat→S8:=lN Oq 24
def TE:Nat→S8:=lN TD 12
def TF:Nat→S8:=lN TE 6
def W7:Nat→S8:=lN TF 3
theorem qN (s:S8):gX s=s.list.flatMap ik:=rfl
theorem FY {s key p:Nat} (hs:s<3) (hk:key<16) (hp:p<64):fF (gX (uY s)) key (p / 2) (p % 2)=gX (Oo (p*48+(3*kL key+s))):=by
 have hr:∀ k,k<16→kL k<16∧kL (kL k)=k:=by decide
 obtain ⟨h1,h2⟩:=hr key hk;have e1:(p*48+(3*kL key+s)) % 3=s:=by omega
 have e2:(p*48+(3*kL key+s)) % 48 / 3=kL key:=by omega
 have e3:(p*48+(3*kL key+s)) / 48=p:=by omega
 unfold Oo;rw [e1,e2,e3,h2,← FX]
 ·unfold fF ei;rw [qN];simp only [List.flatten_cons,List.flatten_nil,aK]
 ·rw [fU,aa,cX,aN,aN,List.length_nil]
  decide
theorem Ij {s key p:Nat} (hs:s<3) (hk:key<16) (hp:p<64):ku (gX (uY s)) key (p / 2) (p % 2)=gX (uR (p*48+(3*kL key+s))):=by
 unfold ku uR;rw [FY hs hk hp,← FX]
 ·unfold ei;rw [qN];simp only [List.flatten_cons,List.flatten_nil,aK]
 ·rw [fU,List.length_nil]
  decide
theorem qO {α β:Type} (f:α→List β) (k:Nat) (h:∀ a,(f a).length=k):∀ l:List α,(l.flatMap f).length=k*l.length
 | []=>rfl
 | a::l=>by rw [aU,aa,h,qO f k h l,aN,Nat.mul_add,Nat.mul_one,Nat.add_comm]
theorem Lq:1+(4*(8*64)+(0+(9+zs (1+(4*(8*64)+0)))))=64*33:=by decide
theorem N4 (seed:List UInt8) (key p:Nat):jC (fun _ _=>false) seed key p=ku seed key (p / 2) (p % 2):=by
 unfold jC;exact aB Bool.false_ne_true
theorem Ik {s key:Nat} (hs:s<3) (hk:key<16):∀ l:List Nat,(∀ p∈l,p<64)→l.flatMap (jC (fun _ _=>false) (gX (uY s)) key)=l.flatMap fun p=>(uR (p*48+(3*kL key+s))).list.flatMap ik:=by
 intro l
 induction l with
 | nil=>intro _;rw [List.flatMap_nil,List.flatMap_nil]
 | cons p l ih =>
  intro hl;rw [aU,aU,ih fun q hq=>hl q (aT _ hq),N4,Ij hs hk (hl p List.mem_cons_self),qN (uR _)]
theorem Lr {s key:Nat} (hs:s<3) (hk:key<16):(nv (fun _ _=>false) (gX (uY s)) key).flatten=((List.range 64).flatMap fun p=>(uR (p*48+(3*kL key+s))).list).flatMap ik:=by
 unfold nv;rw [List.flatMap_assoc,← List.flatMap_def];exact Ik hs hk _ fun p hp=>List.mem_range.1 hp
theorem Ls {s key:Nat} (hs:s<3) (hk:key<16):iz (gX (uY s)) key=gX (Oq (3*kL key+s)):=by
 unfold iz Oq;have h:=Lr hs hk;have hl:((List.range 64).flatMap fun p=>(uR (p*48+(3*kL key+s))).list).length=8*64:=by rw [qO _ 8 (fun _=>rfl),List.length_range]
 generalize ((List.range 64).flatMap fun p=>(uR (p*48+(3*kL key+s))).list)=us at *
 rw [← FX]
 ·unfold ei;rw [h,aK]
 ·rw [hl,List.length_nil];exact Lq
theorem rp (S:Nat→S8) (m r:Nat):ei 14 [gX (S r),gX (S (m+r))]=gX (lN S m r):=by
 unfold lN;rw [← FX]
 ·unfold ei;rw [qN,qN];simp only [List.flatten_cons,List.flatten_nil,aK,aW]
 ·rw [aa,fU,fU,List.length_nil]
  decide
theorem N5 (o:Nat→List UInt8) (n:List UInt8→List UInt8→List UInt8) (hn:∀ a b,n a b=ei 14 [a,b]):(pO ((List.range 16).map o) 4).getD 0 [] =
 n (n (n (n (o 0) (o 1)) (n (o 2) (o 3))) (n (n (o 4) (o 5)) (n (o 6) (o 7)))) (n (n (n (o 8) (o 9)) (n (o 10) (o 11))) (n (n (o 12) (o 13)) (n (o 14) (o 15)))):=by
 have h2:∀ a b r,iQ (a::b::r)=n a b::iQ r:=fun a b r=>by rw [hn];rfl
 have h0:iQ []=[]:=rfl;have e:(List.range 16).map o=[o 0,o 1,o 2,o 3,o 4,o 5,o 6,o 7,o 8,o 9,o 10,o 11,o 12,o 13,o 14,o 15]:=rfl;rw [e];simp only [pO,h2,h0]
 rfl
theorem FZ {s:Nat} (hs:s<3):kM (gX (uY s))=gX (W7 s):=by
 have ho:∀ k k',k<16→kL k=k'→iz (gX (uY s)) k=gX (Oq (3*k'+s)):=fun k k' h e=>by rw [Ls hs h,e]
 unfold kM eW;rw [N5 _ (fun a b=>ei 14 [a,b]) (fun _ _=>rfl)]
 rw [ho 0 0 (by decide) rfl,ho 1 8 (by decide) rfl,ho 2 4 (by decide) rfl,ho 3 12 (by decide) rfl,ho 4 2 (by decide) rfl,ho 5 10 (by decide) rfl,ho 6 6 (by decide) rfl,ho 7 14 (by decide) rfl,
  ho 8 1 (by decide) rfl,ho 9 9 (by decide) rfl,ho 10 5 (by decide) rfl,ho 11 13 (by decide) rfl,ho 12 3 (by decide) rfl,ho 13 11 (by decide) rfl,ho 14 7 (by decide) rfl,ho 15 15 (by decide) rfl]
 have n3:∀ r r',r'=24+r→ei 14 [gX (Oq r),gX (Oq r')]=gX (TD r):=fun r r' h=>by rw [h];exact rp Oq 24 r
 have n4:∀ r r',r'=12+r→ei 14 [gX (TD r),gX (TD r')]=gX (TE r):=fun r r' h=>by rw [h];exact rp TD 12 r
 have n5:∀ r r',r'=6+r→ei 14 [gX (TE r),gX (TE r')]=gX (TF r):=fun r r' h=>by rw [h];exact rp TE 6 r
 have n6:∀ r r',r'=3+r→ei 14 [gX (TF r),gX (TF r')]=gX (W7 r):=fun r r' h=>by rw [h];exact rp TF 3 r
 rw [n3 (3*0+s) _ zo,n3 (3*4+s) _ zo,n3 (3*2+s) _ zo,n3 (3*6+s) _ zo,n3 (3*1+s) _ zo,n3 (3*5+s) _ zo,n3 (3*3+s) _ zo,n3 (3*7+s) _ zo,
  n4 (3*0+s) _ zo,n4 (3*2+s) _ zo,n4 (3*1+s) _ zo,n4 (3*3+s) _ zo,n5 (3*0+s) _ zo,n5 (3*1+s) _ zo,n6 (3*0+s) _ zo,Nat.mul_zero,aC]
theorem BY (s:Nat):ei 20 [be (s+1) 4]=gX (uY s):=by
 unfold uY;rw [← FX]
 ·unfold ei;simp only [List.flatten_cons,List.flatten_nil,aK,List.flatMap_nil,List.nil_append]
 ·rw [cX,List.length_nil]
  decide
def uS (a b c d e f g h:Nat):Nat→Nat
 | 0=>a
 | 1=>b
 | 2=>c
 | 3=>d
 | 4=>e
 | 5=>f
 | 6=>g
 | _=>h
theorem qP (n:Nat) (S:Nat→S8):∀ j,j<8→uS (pk n fun i=>(S i).a) (pk n fun i=>(S i).b) (pk n fun i=>(S i).c) (pk n fun i=>(S i).d) (pk n fun i=>(S i).e) (pk n fun i=>(S i).f) (pk n fun i=>(S i).g) (pk n fun i=>(S i).h) j=pk n fun i=>(S i).list.getD j 0
 | 0,_=>rfl
 | 1,_=>rfl
 | 2,_=>rfl
 | 3,_=>rfl
 | 4,_=>rfl
 | 5,_=>rfl
 | 6,_=>rfl
 | 7,_=>rfl
 | j+8,h=>absurd h zo
def TG (O:Nat) (cs:List Nat) (j:Nat):Nat:=Nat.mul O (cs.getD j 0)
theorem sW (n:Nat) (cs:List Nat) (j:Nat) (x:UInt32) (h:x.toNat=cs.getD j 0):TG (jW n) cs j=pk n fun _=>x:=by
 unfold TG;rw [← h];exact (uO n x).symm
theorem ab2 (m k:Nat):uM m k=(2 ^ (64*m*k) - 1) / (2 ^ (64*m) - 1)∨m=0:=by
 rcases Nat.eq_zero_or_pos m with h0|h0
 ·exact .inr h0
 left
 have hb:2 ^ (64*m)=(2 ^ (64*m) - 1)+1:=by have:=Nat.two_pow_pos (64*m);omega
 have key:∀ k,uM m k*(2 ^ (64*m) - 1)+1=2 ^ (64*m*k):=by
  intro k
  induction k with
  | zero=>show 0*_+1=2 ^ (64*m*0);rw [Nat.zero_mul,Nat.mul_zero,Nat.pow_zero]
  | succ k ih =>
   show (1+2 ^ (64*m)*uM m k)*_+1=_
   rw [uP hb,ih,Nat.mul_add,Nat.mul_one,Nat.pow_add]
 have hp:0<2 ^ (64*m) - 1:=by
  have:2 ^ 1≤2 ^ (64*m):=Nat.pow_le_pow_right (by decide) zo
  omega
 rw [← key k,Nat.add_sub_cancel,Nat.mul_div_cancel _ hp]
def XP (f:Nat→Nat):Nat→Nat→Nat→Nat
 | 0,_,acc=>acc
 | n+1,i,acc=>force (Nat.add acc (Nat.shiftLeft (f i) (Nat.mul 64 i))) fun acc=>force (Nat.succ i) fun i=>XP f n i acc
theorem N6 (f:Nat→Nat):∀ n i acc,XP f n i acc=acc+2 ^ (64*i)*lk n fun j=>f (i+j)
 | 0,i,acc=>by show acc=acc+_*0;rw [Nat.mul_zero,Nat.add_zero]
 | n+1,i,acc=>by
  show force (Nat.add acc (Nat.shiftLeft (f i) (Nat.mul 64 i))) _=_
  rw [force_eq,force_eq,N6 f n]
  show acc+(f i <<< (64*i))+_=acc+2 ^ (64*i)*(f (i+0)+2 ^ 64*lk n fun j=>f (i+(j+1)))
  rw [Nat.shiftLeft_eq,Nat.mul_add,Nat.add_zero,← Nat.mul_assoc,← Nat.pow_add,Nat.mul_comm (f i),Nat.add_assoc,show Nat.succ i=i+1 from rfl,show 64*(i+1)=64*i+64 by omega];have:(fun j=>f (i+1+j))=fun j=>f (i+(j+1)):=funext fun j=>by rw [show i+1+j=i+(j+1) by omega]
  rw [this]
theorem N7:∀ (n:Nat) (f g:Nat→Nat),(∀ i,i<n→f i=g i)→lk n f=lk n g
 | 0,_,_,_=>rfl
 | n+1,f,g,h=>by
  rw [gZ,gZ,h 0 zo,N7 n _ _ fun i hi=>h (i+1) zo]
theorem Js:∀ n:Nat,lk n (fun _=>0)=0
 | 0=>rfl
 | n+1=>by rw [gZ,Js n]
theorem TH (m k:Nat) (hm:0<m) (f:Nat→UInt32):pk (k*m) (fun i=>f (i % m))=pk m f*uM m k:=NU m (fun i=>(f i).toNat) hm k
abbrev m0 (s:Nat):List UInt8:=20::(([]:List UInt32).flatMap ik++(be (s+1) 4++mG (1+(4*([]:List UInt32).length+(be (s+1) 4).length))))
def V0:V8:=Ih 3 1 fun _ _ t=>pk 3 fun s=>wd (m0 s) t
theorem W8:V0=uX 3 uY:=uQ 3 1 _ m0 fun _ _=>rfl
def k9 (i:Nat):Nat:=Nat.add (Nat.add (Nat.mul (kL (Nat.div (Nat.mod i 48) 3)) 16777216) (Nat.mul (Nat.div (Nat.div i 48) 2) 65536)) (Nat.add (Nat.mul (Nat.mod (Nat.div i 48) 2) 256) 128)
def c1 (O:Nat):Nat→Nat
 | 0=>0
 | 1=>XP k9 3072 0 0
 | j=>TG O [0,0,0,0,0,0,0,312] j
def TI (n:Nat):Nat:=Nat.pow 2 (Nat.mul 64 n)
theorem TJ (n:Nat):2 ^ (64*n)=TI n:=rfl
def W9 (m k:Nat):Nat:=Nat.div (Nat.sub (TI (Nat.mul m k)) 1) (Nat.sub (TI m) 1)
theorem Qa (m k:Nat) (h:0<m):W9 m k=uM m k:=by
 rcases ab2 m k with h1|h1
 ·rw [h1,Nat.mul_assoc];rfl
 ·omega
def V1c (a b c d e f g h:Nat):V8:=force (W9 3 1024) fun r=>Ih 3072 1 fun O M=>TC O M 167772160 8 (fun j=>Nat.mul (uS a b c d e f g h j) r) (c1 O)
def V1 (s:V8):V8:=match s with
 | ⟨a,b,c,d,e,f,g,h⟩=>V1c a b c d e f g h
abbrev X1 (i:Nat):List UInt8:=be (kL (i % 48 / 3)) 4++[UInt8.ofNat (i / 48 / 2),UInt8.ofNat (i / 48 % 2)]
theorem N8 (b0 a b c:UInt8) (l:List UInt8):(wd (b0::a::b::c::l) 0).toNat=b0.toNat*16777216+(a.toNat*65536+b.toNat*256+c.toNat):=by
 show ((((b0.toUInt32 <<< UInt32.ofNat (Int.toNat 24)) ||| (a.toUInt32 <<< UInt32.ofNat (Int.toNat 16))) ||| (b.toUInt32 <<< UInt32.ofNat (Int.toNat 8))) ||| c.toUInt32).toNat=_
 rw [Dt,UInt32.toNat_or,Jr];have hb:=b0.toNat_lt;have h1:=a.toNat_lt;have h2:=b.toNat_lt;have h3:=c.toNat_lt
 have e:(b0.toUInt32 <<< UInt32.ofNat 24).toNat=b0.toNat <<< 24:=by
  show (b0.toNat <<< 24) % 2 ^ 32=_
  rw [Nat.mod_eq_of_lt (by rw [Nat.shiftLeft_eq];omega)]
 rw [e,Ii zo]
theorem N9 (a b c d:UInt8) (l:List UInt8) (j:Nat):wd (a::b::c::d::l) (j+1)=wd l j:=by
 unfold wd;rw [show 4*(j+1)=4*j+4 by omega]
 rfl
theorem Xa:mG 39=[128,0,0,0,0,0,0,0,0,0,0,0,0,0,0,0,0,0,0,0,0,0,0,1,56]:=by decide
theorem Xb:V1 (uX 3 uY)=uX 3072 Oo:=by
 rw [show V1 (uX 3 uY)=V1c (pk 3 fun i=>(uY i).a) (pk 3 fun i=>(uY i).b) (pk 3 fun i=>(uY i).c) (pk 3 fun i=>(uY i).d) (pk 3 fun i=>(uY i).e) (pk 3 fun i=>(uY i).f) (pk 3 fun i=>(uY i).g) (pk 3 fun i=>(uY i).h) from rfl];unfold V1c;rw [force_eq,Qa 3 1024 zo];refine uQ 3072 1 _ (fun i=>10::((uY (i % 3)).list.flatMap ik++(X1 i++mG (1+(4*(uY (i % 3)).list.length+(X1 i).length))))) ?_;refine Du 3072 10 _ 8 7 (fun i=>(uY (i % 3)).list) (fun i=>X1 i++mG (1+(4*(uY (i % 3)).list.length+(X1 i).length))) _ _ (by decide) zo (fun _=>rfl) ?_ ?_ ?_
 ·intro j hj;rw [qP 3 uY j hj];exact (TH 3 1024 zo fun s=>(uY s).list.getD j 0).symm
 ·show 0=_
  refine (Js 3072).symm.trans (N7 _ _ _ fun i hi=>?_)
  have hk:kL (i % 48 / 3)<16:=by
   have:∀ k,k<16→kL k<16:=by decide
   exact this _ zo
  have h2:∀ k,k<16→(0:Nat)=(P8 (UInt8.ofNat (k / 256 ^ 3)) (UInt8.ofNat (k / 256 ^ 2)) (UInt8.ofNat (k / 256 ^ 1))).toNat:=by decide
  have hX:∀ (i:Nat) (Y:List UInt8),X1 i++Y=UInt8.ofNat (kL (i % 48 / 3) / 256 ^ 3)::UInt8.ofNat (kL (i % 48 / 3) / 256 ^ 2)::UInt8.ofNat (kL (i % 48 / 3) / 256 ^ 1)::UInt8.ofNat (kL (i % 48 / 3) / 256 ^ 0)::UInt8.ofNat (i / 48 / 2)::UInt8.ofNat (i / 48 % 2)::Y:=fun _ _=>rfl
  have hg:∀ (a b c:UInt8) (Y:List UInt8),(a::b::c::Y).getD 0 0=a∧(a::b::c::Y).getD 1 0=b∧(a::b::c::Y).getD 2 0=c:=fun _ _ _ _=>⟨rfl,rfl,rfl⟩
  show (0:Nat)=(P8 ((X1 i++_).getD 0 0) ((X1 i++_).getD 1 0) ((X1 i++_).getD 2 0)).toNat
  rw [hX,(hg _ _ _ _).1,(hg _ _ _ _).2.1,(hg _ _ _ _).2.2];exact h2 _ hk
 ·intro j hj
  have hX:∀ i,(X1 i++mG (1+(4*(uY (i % 3)).list.length+(X1 i).length))).drop 3=UInt8.ofNat (kL (i % 48 / 3) / 256 ^ 0)::UInt8.ofNat (i / 48 / 2)::UInt8.ofNat (i / 48 % 2)::mG 39:=fun i=>by
   rw [fU]
   rfl
  simp only [hX]
  have hs:∀ (a b c:UInt8) (j:Nat),1≤j→j<7→(wd (a::b::c::mG 39) j).toNat=[0,0,0,0,0,0,0,312].getD (j+1) 0:=by
   intro a b c j h1 h2;obtain ⟨j,rfl⟩:∃ k,j=k+1:=⟨j - 1,by omega⟩
   have hd:∀ j,j<6→(wd [0,0,0,0,0,0,0,0,0,0,0,0,0,0,0,0,0,0,0,0,0,0,1,56] j).toNat=[0,0,0,0,0,0,0,312].getD (j+1+1) 0:=by decide
   rw [Xa,N9];exact hd j zo
  rcases Nat.eq_zero_or_pos j with rfl|h1
  ·show XP k9 3072 0 0=_
   rw [N6,aC,Nat.mul_zero,Nat.pow_zero,Nat.one_mul];refine N7 _ _ _ fun i hi=>?_
   have hk:kL (i % 48 / 3)<16:=by
    have:∀ k,k<16→kL k<16:=by decide
    exact this _ zo
   rw [aC,Xa,N8,Nat.div_one,UInt8.toNat_ofNat_of_lt' (by show _<256;omega),UInt8.toNat_ofNat_of_lt' (by show _<256;omega),UInt8.toNat_ofNat_of_lt' (by show _<256;omega)]
   show kL (i % 48 / 3)*16777216+i / 48 / 2*65536+(i / 48 % 2*256+128)=kL (i % 48 / 3)*16777216+(i / 48 / 2*65536+i / 48 % 2*256+128)
   omega
  ·obtain ⟨j,rfl⟩:∃ k,j=k+1:=⟨j - 1,by omega⟩
   show TG (jW 3072) _ (j+1+1)=_
   rw [sW 3072 _ _ (wd (0::0::0::mG 39) (j+1)) (hs _ _ _ _ h1 hj)];refine kK fun i=>?_
   apply UInt32.toNat_inj.1;rw [hs _ _ _ _ h1 hj,hs _ _ _ _ h1 hj]
def V2 (s:V8):V8:=match s with
 | ⟨a,b,c,d,e,f,g,h⟩=>Ih 3072 1 fun O M=>TC O M 184549376 8 (uS a b c d e f g h) (TG O [8388608,0,0,0,0,0,0,264])
theorem Xc:V2 (uX 3072 Oo)=uX 3072 uR:=by
 refine uQ 3072 1 _ (fun i=>11::((Oo i).list.flatMap ik++([]++mG (1+(4*(Oo i).list.length+([]:List UInt8).length))))) ?_;refine Du 3072 11 _ 8 7 (fun i=>(Oo i).list) (fun i=>[]++mG (1+(4*(Oo i).list.length+([]:List UInt8).length))) _ _ (by decide) zo (fun _=>rfl) (qP 3072 Oo) ?_ ?_
 ·simp only [fU];exact sW 3072 _ 0 _ (by decide)
 ·intro j hj;simp only [fU];have:∀ j,j<7→(wd (([]++mG (1+(4*8+([]:List UInt8).length))).drop 3) j).toNat=[8388608,0,0,0,0,0,0,264].getD (j+1) 0:=by decide
  exact sW 3072 _ (j+1) _ (this j hj)
def t15 (x:Nat):List Nat:=[8388608,0,0,0,0,0,0,0,0,0,0,0,0,0,0,x]
def V3c (a b c d e f g h:Nat):V8:=force (TI 48) fun q=>Ih 48 33 fun O M=>TC O M 201326592 512 (fun t=>Nat.mod (Nat.shiftRight (uS a b c d e f g h (Nat.mod t 8)) (Nat.mul 3072 (Nat.div t 8))) q) (TG O (t15 16392))
def V3 (s:V8):V8:=match s with
 | ⟨a,b,c,d,e,f,g,h⟩=>V3c a b c d e f g h
theorem Rc (F:Nat→S8) (j:Nat) (hj:j<8):∀ (l:List Nat) (p:Nat) (h:p<l.length),(l.flatMap fun q=>(F q).list).getD (8*p+j) 0=(F (l[p]'h)).list.getD j 0
 | x::l,0,_=>by
  rw [aU,aA,List.getElem?_append_left (by rw [fU];omega),← aA,Nat.mul_zero,aC]
  rfl
 | x::l,p+1,h=>by
  rw [aU,aA,List.getElem?_append_right (by rw [fU];omega),← aA,fU,show 8*(p+1)+j - 8=8*p+j by omega,Rc F j hj l p (by rw [aN] at h;omega)]
  rfl
theorem Xd:V3 (uX 3072 uR)=uX 48 Oq:=by
 have hl:∀ r,((List.range 64).flatMap fun p=>(uR (p*48+r)).list).length=512:=fun r=>by rw [qO _ 8 (fun _=>rfl),List.length_range]
 have hg:∀ r t,t<512→((List.range 64).flatMap fun p=>(uR (p*48+r)).list).getD t 0=(uR (48*(t / 8)+r)).list.getD (t % 8) 0:=fun r t ht=>by
  have h:=Rc (fun p=>uR (p*48+r)) (t % 8) zo (List.range 64) (t / 8) (by rw [List.length_range];omega);rw [show 8*(t / 8)+t % 8=t by omega,List.getElem_range,Nat.mul_comm (t / 8)] at h
  exact h
 rw [show V3 (uX 3072 uR)=V3c (pk 3072 fun i=>(uR i).a) (pk 3072 fun i=>(uR i).b) (pk 3072 fun i=>(uR i).c) (pk 3072 fun i=>(uR i).d) (pk 3072 fun i=>(uR i).e) (pk 3072 fun i=>(uR i).f) (pk 3072 fun i=>(uR i).g) (pk 3072 fun i=>(uR i).h) from rfl];unfold V3c;rw [force_eq];have e3:Oq=fun r=>fb uV (12::(((List.range 64).flatMap fun p=>(uR (p*48+r)).list).flatMap ik++([]++mG (1+(4*((List.range 64).flatMap fun p=>(uR (p*48+r)).list).length+([]:List UInt8).length))))) 33:=rfl
 rw [e3];simp only [hl]
 generalize hJ:(fun r=>(List.range 64).flatMap fun p=>(uR (p*48+r)).list)=us at *
 have Hl:∀ r,((List.range 64).flatMap fun p=>(uR (p*48+r)).list)=us r:=fun r=>congrFun hJ r
 simp only [Hl] at *
 refine uQ 48 33 _ (fun r=>12::((us r).flatMap ik++([]++mG (1+(4*512+([]:List UInt8).length))))) ?_;refine Du 48 12 _ 512 15 us (fun r=>[]++mG (1+(4*512+([]:List UInt8).length))) _ _ (by decide) zo hl ?_ ?_ ?_
 ·intro t ht
  show ((uS _ _ _ _ _ _ _ _ (t % 8)) >>> (3072*(t / 8))) % TI 48=_
  rw [qP 3072 uR (t % 8) zo];have h:=Tq (48*(t / 8)) 48 (3072 - 48 - 48*(t / 8)) fun i=>(uR i).list.getD (t % 8) 0
  rw [show 48*(t / 8)+(48+(3072 - 48 - 48*(t / 8)))=3072 by omega,show 64*(48*(t / 8))=3072*(t / 8) by omega,TJ 48] at h
  rw [← h];exact kK fun r=>(hg r t ht).symm
 ·exact sW 48 _ 0 _ (by decide)
 ·intro j hj;have:∀ j,j<15→(wd (([]++mG (1+(4*512+([]:List UInt8).length))).drop 3) j).toNat=(t15 16392).getD (j+1) 0:=by decide
  exact sW 48 _ (j+1) _ (this j hj)
def vNc (m a b c d e f g h:Nat):V8:=force (TI m) fun q=>Ih m 2 fun O M=>TC O M 234881024 16 (fun t=>cond (Nat.blt t 8) (Nat.mod (uS a b c d e f g h t) q) (Nat.shiftRight (uS a b c d e f g h (Nat.sub t 8)) (Nat.mul 64 m))) (TG O (t15 520))
def vN (m:Nat) (s:V8):V8:=match s with
 | ⟨a,b,c,d,e,f,g,h⟩=>vNc m a b c d e f g h
theorem Jt (S:Nat→S8) (m:Nat):vN m (uX (m+m) S)=uX m (lN S m):=by
 rw [show vN m (uX (m+m) S)=vNc m (pk (m+m) fun i=>(S i).a) (pk (m+m) fun i=>(S i).b) (pk (m+m) fun i=>(S i).c) (pk (m+m) fun i=>(S i).d) (pk (m+m) fun i=>(S i).e) (pk (m+m) fun i=>(S i).f) (pk (m+m) fun i=>(S i).g) (pk (m+m) fun i=>(S i).h) from rfl];unfold vNc;rw [force_eq];refine uQ m 2 _ (fun r=>14::(((S r).list++(S (m+r)).list).flatMap ik++([]++mG (1+(4*((S r).list++(S (m+r)).list).length+([]:List UInt8).length))))) ?_;have hl:∀ r,((S r).list++(S (m+r)).list).length=16:=fun r=>by rw [aa,fU,fU]
 simp only [hl];refine Du m 14 _ 16 15 (fun r=>(S r).list++(S (m+r)).list) (fun r=>[]++mG (1+(4*16+([]:List UInt8).length))) _ _ (by decide) zo hl ?_ ?_ ?_
 ·intro t ht
  by_cases h8:t<8
  ·rw [show Nat.blt t 8=true by rw [Nat.blt_eq];exact h8,cond_true]
   show (uS _ _ _ _ _ _ _ _ t) % TI m=_
   rw [qP (m+m) S t h8];refine (Dq m m _ fun i=>lS _).symm.trans ?_;refine kK (f:=fun i=>(S i).list.getD t 0) fun r=>?_
   rw [aA,aA,List.getElem?_append_left (by rw [fU];exact h8)]
  ·rw [show Nat.blt t 8=false by rw [← Bool.not_eq_true,Nat.blt_eq];exact h8,cond_false]
   show (uS _ _ _ _ _ _ _ _ (t - 8)) >>> (64*m)=_
   rw [qP (m+m) S (t - 8) zo];refine (Dr m m _ fun i=>lS _).symm.trans ?_;refine kK (f:=fun i=>(S (m+i)).list.getD (t - 8) 0) fun r=>?_
   rw [aA,aA,List.getElem?_append_right (by rw [fU];omega),fU]
 ·exact sW m _ 0 _ (by decide)
 ·intro j hj;have:∀ j,j<15→(wd (([]++mG (1+(4*16+([]:List UInt8).length))).drop 3) j).toNat=(t15 520).getD (j+1) 0:=by decide
  exact sW m _ (j+1) _ (this j hj)
def TK:V8:=vN 3 (vN 6 (vN 12 (vN 24 (V3 (V2 (V1 V0))))))
theorem Qb:TK=uX 3 W7:=by
 unfold TK;rw [W8,Xb,Xc,Xd,Jt Oq 24]
 show vN 3 (vN 6 (vN 12 (uX (12+12) TD)))=_
 rw [Jt TD 12]
 show vN 3 (vN 6 (uX (6+6) TE))=_
 rw [Jt TE 6]
 show vN 3 (uX (3+3) TF)=_
 rw [Jt TF 3]
 rfl
theorem TL:TK.a=649475562231281127360038133599108485838446613963:=by decide +kernel
theorem Il {a b:S8} (h:gX a=gX b):a.a=b.a:=by
 have key:∀ s:S8,(wd (gX s) 0).toNat=s.a.toNat:=fun s=>by
  show (wd (_::_::_::_::_) 0).toNat=_
  rw [N8]
  show (s.a.toNat >>> 24) % 256*16777216+((s.a.toNat >>> 16) % 256*65536+(s.a.toNat >>> 8) % 256*256+s.a.toNat % 256)=s.a.toNat
  have:=s.a.toNat_lt;rw [Nat.shiftRight_eq_div_pow,Nat.shiftRight_eq_div_pow,Nat.shiftRight_eq_div_pow]
  omega
 apply UInt32.toNat_inj.1;rw [← key a,← key b,h]
theorem pk3 (f:Nat→UInt32):pk 3 f=(f 0).toNat+2 ^ 64*((f 1).toNat+2 ^ 64*((f 2).toNat+2 ^ 64*0)):=rfl
theorem F0 {x y z:Nat} (hx:x<4294967296) (hy:y<4294967296) (hz:z<4294967296) (h:x+2 ^ 64*(y+2 ^ 64*(z+2 ^ 64*0))=649475562231281127360038133599108485838446613963):x≠y∧x≠z∧y≠z:=by omega
theorem Xe (n:Nat) (S:Nat→S8):(uX n S).a=pk n fun s=>(S s).a:=rfl
theorem Qc:pk 3 (fun s=>(W7 s).a)=649475562231281127360038133599108485838446613963:=by
 have h:=TL;rw [Qb,Xe] at h
 exact h
theorem F1 {f:Nat→Nat} (h:f 0≠f 1∧f 0≠f 2∧f 1≠f 2) {i j:Nat} (hi:i<3) (hj:j<3) (he:f i=f j):i=j:=by
 rcases (show i=0∨i=1∨i=2 by omega) with rfl|rfl|rfl<;>rcases (show j=0∨j=1∨j=2 by omega) with rfl|rfl|rfl<;>first|rfl|exact absurd he h.1|exact absurd he h.2.1|exact absurd he h.2.2|exact absurd he.symm h.1|exact absurd he.symm h.2.1|exact absurd he.symm h.2.2
theorem F2 {f:Nat→UInt32} (h:pk 3 f=649475562231281127360038133599108485838446613963) {i j:Nat} (hi:i<3) (hj:j<3) (he:f i=f j):i=j:=by
 rw [pk3] at h
 exact F1 (f:=fun s=>(f s).toNat) (F0 (fq _) (fq _) (fq _) h) hi hj (congrArg UInt32.toNat he)
theorem Lt {i j:Nat} (hi:i<3) (hj:j<3) (h:kM (ei 20 [be (i+1) 4])=kM (ei 20 [be (j+1) 4])):i=j:=by
 rw [BY i,BY j,FZ hi,FZ hj] at h
 exact F2 (f:=fun s=>(W7 s).a) Qc hi hj (Il h)
end Go.Proofs
namespace Go.Proofs
attribute [local irreducible] Bs.cD Bs.Do Bs.O Bs.W Bs.Fin Bs.A Bs.Ct Bs.cE Bs.Rd Bs.Sat Bs.cK Bs.Ob Bs.dJ Bs.View Bs.cz Bs.Ex Bs.dH Bs.Pu Bs.eY Bs.dM Bs.dZ
open Go.Bs
open Tryz
theorem Qd (n q room size wait retry:Int):(uN n q room size wait retry).ok:=by
 have b1:=dm n 1 3 zo;have b2:=dm q 1 (within n 1 3) zo;have b3:=dm room 1 16 zo;have b4:=dm size 1 8 zo;have b5:=dm wait 0 6 zo;have b6:=dm retry 1 4 zo;have hk:(uN n q room size wait retry).k=(within n 1 3).toNat:=rfl;have hq:(uN n q room size wait retry).ey=(within q 1 (within n 1 3)).toNat:=rfl;have hr:(uN n q room size wait retry).room=(within room 1 16).toNat:=rfl;have hs:(uN n q room size wait retry).size=(within size 1 8).toNat:=rfl;have hw:(uN n q room size wait retry).wait=(within wait 0 6).toNat:=rfl;have ht:(uN n q room size wait retry).retry=(within retry 1 4).toNat:=rfl
 generalize uN n q room size wait retry=c at *
 have h13:1≤c.k∧c.k≤3:=by omega
 refine ⟨h13,by omega,⟨⟨?_,?_⟩,⟨?_,?_⟩,?_⟩,by omega,?_⟩
 ·show 1≤c.room;omega
 ·show c.room≤16;omega
 ·show 1≤c.size;omega
 ·show c.size≤8;omega
 ·show c.wait≤1000;omega
 ·have hl:(cZ c).ew.length=c.k:=lh c;have Ml:(cZ c).ey=c.ey:=rfl;refine ⟨j4 _,by rw [Ml];omega,by rw [Ml,hl];omega,by rw [hl];omega,fun w hw=>?_,?_⟩
  ·obtain ⟨i,-,rfl⟩:=aE.1 hw;exact j4 _
  ·show ((List.range c.k).map fun i=>kM (cS (i+1))).Nodup
   refine List.Pairwise.map _ (R:=fun i j=>i≠j∧i<3∧j<3) (fun i j Dy he=>Dy.1 (Lt Dy.2.1 Dy.2.2 he)) ?_;refine List.Pairwise.imp_of_mem ?_ (List.nodup_range (n:=c.k));intro i j hi hj Dy;have:=List.mem_range.1 hi;have:=List.mem_range.1 hj;exact ⟨Dy,by omega,by omega⟩
def da.Im (c:dh) (s:da) (x:It):da × Int × Int:=if x.k=10 then (s.kC c x.to,0,0) else if x.k=12 then s.watch else s.FI c x
theorem Lu (R:List cJ) (e:World) (w:Nat) (c:dh) (m:Nat) (s:da) (ev:List (Int × Int × Int × dv)) (x:It) (v:Value) (hv:db R v x.b) (hk:1≤x.k∧x.k≤12∧x.k≠11) (Ra:x.k=10→x.to≤c.k+1) (hn:x.n≤1000) (hb:x.b.length≤200) (hm:m<250) :
 Ct prog 25 #[ptr w,.agg (x.cells v).toArray] e (dO w c m s ev::R) (fun v' L'=>v'=.agg [.int .i64 (x.k:Int),.int .i64 (s.Im c x).2.1,.int .i64 (s.Im c x).2.2].toArray∧∃ X,(∃ jP,XN jP (s.Im c x).1∧X=dO w c (m+1) (s.Im c x).1 (ev++jP))∧L'=X::R):=by
 unfold da.Im
 by_cases Oh:x.k=10
 ·rw [aI Oh];refine a7 (cn (hv.cL (show cz (dO w c m s ev::R) R from zE))) fun o=>?_
  obtain ⟨k,n,to,b⟩:=x;dsimp only at hv hk Ra hn hb Oh ⊢
  subst Oh
  exact kJ R e w c m s ev 10 n to 0 v o _ (by decide) rfl _ _ _ fun R' f=>(FQ R' e w c m s ev _ n 0 v o hm to (Ra rfl)).mono fun v' L' h=>by
   obtain ⟨h1,jP,h2,h3⟩:=h;exact ⟨h1,_,⟨jP,h2.d,rfl⟩,h3⟩
 ·rw [aB Oh]
  by_cases T9:x.k=12
  ·rw [aI T9];refine a7 (cn (hv.cL (show cz (dO w c m s ev::R) R from zE))) fun o=>?_
   obtain ⟨k,n,to,b⟩:=x;dsimp only at hv hk Ra hn hb T9 ⊢
   subst T9
   exact kJ R e w c m s ev 12 n to 0 v o _ (by decide) rfl _ _ _ fun R' f=>(FT R' e w c m s ev _ n to 0 v o hm).mono fun v' L' h=>by
    obtain ⟨h1,h3⟩:=h;exact ⟨h1,_,⟨[],rF.nil.d,by rw [aK]⟩,h3⟩
  ·rw [aB T9];exact z3 R e w c m s ev x v hv zo hn hb hm
structure Gg where
 kind:Int
 n:Int
 to:Int
 a:Int
 v:Int
 u:Value
 b:dv
abbrev Lv (x:Int):Prop:=-9223372036854775808≤x∧x≤9223372036854775807
structure Gg.ok (x:Gg):Prop where
 kind:Lv x.kind
 n:Lv x.n
 to:Lv x.to
 a:Lv x.a
 v:Lv x.v
abbrev Gg.cells (x:Gg):List Value:=[.int .i64 x.kind,.int .i64 x.n,.int .i64 x.to,.int .i64 x.a,.int .i64 x.v,x.u]
theorem ab6 (x:Gg):x.cells.length=6:=rfl
def eO:List Nat:=[1,1,2,3,4,5,6,6,6,7,8,9,10,12]
def uT (x:Int):Nat:=eO.getD ((within x 0 1048576).tmod 14).toNat 0
def fM (c:dh) (x:Gg):It :=
 if uT x.kind=1 then ⟨1,0,0,if x.n.tmod 7=0 then x.b.take 40 else mO x.a x.v x.n⟩
 else if uT x.kind=2 then ⟨2,(within x.n 0 6).toNat,0,[]⟩
 else if uT x.kind=6∨uT x.kind=7∨uT x.kind=8 then ⟨uT x.kind,if 0<x.n.tmod 5 then 0 else ((within x.n 0 1048576).tmod 4).toNat,0,[]⟩
 else if uT x.kind=9 then ⟨9,(within x.n 0 6).toNat,0,[]⟩
 else if uT x.kind=10 then ⟨10,(within x.n 0 20).toNat,(within x.to 0 (c.k+1)).toNat,[]⟩
 else ⟨uT x.kind,0,0,[]⟩
theorem Ju (x:Int):∃ j:Nat,j<14∧(within x 0 1048576).tmod 14=(j:Int)∧uT x=eO.getD j 0:=by
 have h:=dm x 0 1048576 zo;refine ⟨((within x 0 1048576).tmod 14).toNat,?_,?_,rfl⟩
 ·rw [Int.tmod_eq_emod_of_nonneg h.1];omega
 ·rw [Int.tmod_eq_emod_of_nonneg h.1];omega
theorem wW {j:Nat} (h:j<14):eO.getD j 0=1∨eO.getD j 0=2∨(eO.getD j 0=6∨eO.getD j 0=7∨eO.getD j 0=8)∨eO.getD j 0=9∨eO.getD j 0=10∨(eO.getD j 0=3∨eO.getD j 0=4∨eO.getD j 0=5∨eO.getD j 0=12):=by
 have key:∀ j,j<14→eO.getD j 0=1∨eO.getD j 0=2∨(eO.getD j 0=6∨eO.getD j 0=7∨eO.getD j 0=8)∨eO.getD j 0=9∨eO.getD j 0=10∨(eO.getD j 0=3∨eO.getD j 0=4∨eO.getD j 0=5∨eO.getD j 0=12):=by decide
 exact key j h
theorem Oa (c:dh) (x:Gg):(1≤(fM c x).k∧(fM c x).k≤12∧(fM c x).k≠11)∧((fM c x).k=10→(fM c x).to≤c.k+1)∧(fM c x).n≤1000∧(fM c x).b.length≤200:=by
 obtain ⟨j,hj,-,hk⟩:=Ju x.kind;have hm:=wW hj;rw [← hk] at hm
 have h1:=dm x.n 0 6 zo;have h2:=dm x.n 0 1048576 zo;have h3:=dm x.n 0 20 zo;have h4:=dm x.to 0 (c.k+1) zo;have h5:(within x.n 0 1048576).tmod 4<4:=Int.tmod_lt_of_pos _ zo
 have hs:(if x.n.tmod 7=0 then x.b.take 40 else mO x.a x.v x.n).length≤200:=by
  split
  ·rw [aF];omega
  ·exact FP _ _ _
 unfold fM
 generalize uT x.kind=κ at *
 split
 ·exact ⟨by dsimp only;omega,fun h=>by dsimp only at h;omega,aH _,hs⟩
 split
 ·exact ⟨by dsimp only;omega,fun h=>by dsimp only at h;omega,by dsimp only;omega,aH _⟩
 split
 ·rename_i h;refine ⟨by dsimp only;omega,fun h6=>?_,?_,aH _⟩
  ·dsimp only at h6;omega
  ·dsimp only;split<;>omega
 split
 ·exact ⟨by dsimp only;omega,fun h=>by dsimp only at h;omega,by dsimp only;omega,aH _⟩
 split
 ·exact ⟨by dsimp only;omega,fun _=>by dsimp only;omega,by dsimp only;omega,aH _⟩
 ·exact ⟨by dsimp only;omega,fun h6=>absurd h6 (by assumption),aH _,aH _⟩
theorem Lw (R L0:List cJ) (f0:cz R L0) (e:World) (c:dh) (Ga:c.k≤3) (x:Gg) (hx:x.ok) (hb:db L0 x.u x.b) :
 Ct prog 95 #[.agg x.cells.toArray,.agg (fX c).toArray] e R (fun v' L'=>∃ (A:cJ) (v:Value),v'=.agg (It.cells (fM c x) v).toArray∧db (A::L0) v (fM c x).b∧v.oneCell'=true∧L'=A::R):=by
 refine a7 (cn (hb.cL f0)) fun ho=>?_
 obtain ⟨q1,q2,q3,q4,q5⟩:=hx;obtain ⟨j,hj,F8,hk⟩:=Ju x.kind;have hm:=wW hj
 have hg:nth [Value.int .i64 1,.int .i64 1,.int .i64 2,.int .i64 3,.int .i64 4,.int .i64 5,.int .i64 6,.int .i64 6,.int .i64 6,.int .i64 7,.int .i64 8,.int .i64 9,.int .i64 10,.int .i64 12] j=some (.int .i64 ((eO.getD j 0:Nat):Int)):=by
  have key:∀ j,j<14→nth [Value.int .i64 1,.int .i64 1,.int .i64 2,.int .i64 3,.int .i64 4,.int .i64 5,.int .i64 6,.int .i64 6,.int .i64 6,.int .i64 7,.int .i64 8,.int .i64 9,.int .i64 10,.int .i64 12] j=some (.int .i64 ((eO.getD j 0:Nat):Int)):=by
   intro j hj
   match j,hj with
   | 0,_=>rfl
   | 1,_=>rfl
   | 2,_=>rfl
   | 3,_=>rfl
   | 4,_=>rfl
   | 5,_=>rfl
   | 6,_=>rfl
   | 7,_=>rfl
   | 8,_=>rfl
   | 9,_=>rfl
   | 10,_=>rfl
   | 11,_=>rfl
   | 12,_=>rfl
   | 13,_=>rfl
   | j+14,h=>exact absurd h zo
  exact key j hj
 rw [← hk] at hm hg
 have w1:=dm x.n 0 6 zo;have w2:=dm x.n 0 1048576 zo;have w3:=dm x.n 0 20 zo;have w4:=dm x.to 0 (c.k+1) zo;have t4:0≤(within x.n 0 1048576).tmod 4:=Int.tmod_nonneg _ w2.1;refine bH (args:=[_,_]) func95 rfl ntmps95 results95 rfl ?_
 (repeat (refine wA ?_;intros))
 refine aZ rfl rfl (eA _ e x.kind 0 1048576 q1 zo) ?_;rintro _ _ ⟨rfl,rfl⟩;refine O.rem rfl rfl (by decide) rfl ?_;rw [F8]
 (repeat (refine wA ?_;intros))
 refine bV rfl (bP zP (by rw [aC];exact hg)) rfl ?_;clear hg;have Ql:∀ X,cz X (Pu True::X):=fun X=>m7 trivial
 have Lx:∀ A,db (A::L0) nY []:=fun A=>cE.nil _ 1
 rcases hm with h|h|h|h|h|h
 ·rw [h]
  (repeat (refine wA ?_;intros))
  refine aZ rfl rfl (yB _ e x.a x.v x.n q4 q5 q2) ?_;rintro _ _ ⟨ad,cc,rfl,rfl⟩
  by_cases h7:x.n.tmod 7=0
  ·have Io:fM c x=⟨1,0,0,x.b.take 40⟩:=by unfold fM;rw [aI h,aI h7]
   rw [Io];refine wB ?_;refine aZ rfl rfl (Mq _ e x.u x.b 40 ((hb.cL f0).cL zE) zo) ?_;rintro v' _ ⟨tH,mS,rfl⟩;refine wB ?_;apply br
   ·exact zV
   exact ⟨cR (.slice ad (mO x.a x.v x.n).length cc) (mO x.a x.v x.n)::R,zE,_,v',rfl,tH _ hb.tail,mS,rfl⟩
  ·have Io:fM c x=⟨1,0,0,mO x.a x.v x.n⟩:=by unfold fM;rw [aI h,aB h7]
   rw [Io];refine wB ?_;apply br
   ·exact zV
   exact ⟨cR (.slice ad (mO x.a x.v x.n).length cc) (mO x.a x.v x.n)::R,zE,_,_,rfl,bb .zero,rfl,rfl⟩
 ·obtain ⟨p,hp⟩:∃ p:Nat,within x.n 0 6=p:=⟨_,(Int.toNat_of_nonneg w1.1).symm⟩
  have Io:fM c x=⟨2,p,0,[]⟩:=by unfold fM;rw [aB zo,aI h,hp];rfl
  rw [h,Io]
  (repeat (refine wA ?_;intros))
  refine aZ rfl rfl (eA _ e x.n 0 6 q2 zo) ?_;rintro _ _ ⟨rfl,rfl⟩;rw [hp];refine wB ?_;apply br
  ·exact zV
  exact ⟨Pu True::R,cj (show cz _ R from zE) (Ql R),_,nY,rfl,Lx _,rfl,rfl⟩
 ·obtain ⟨p,hp⟩:∃ p:Nat,(within x.n 0 1048576).tmod 4=p:=⟨_,(Int.toNat_of_nonneg t4).symm⟩
  by_cases h5:0<x.n.tmod 5
  ·have Io:fM c x=⟨uT x.kind,0,0,[]⟩:=by unfold fM;rw [aB zo,aB zo,aI h,aI h5]
   rw [Io];rcases h with h|h|h<;>rw [h]
   all_goals
    (repeat (refine wA ?_;intros))
    refine aZ rfl rfl (eA _ e x.n 0 1048576 q2 zo) ?_;rintro _ _ ⟨rfl,rfl⟩;refine wB ?_;apply br
    ·exact zV
    exact ⟨Pu True::R,cj (show cz _ R from zE) (Ql R),_,nY,rfl,Lx _,rfl,rfl⟩
  ·have Io:fM c x=⟨uT x.kind,p,0,[]⟩:=by unfold fM;rw [aB zo,aB zo,aI h,aB h5,hp];rfl
   rw [Io];rcases h with h|h|h<;>rw [h]
   all_goals
    (repeat (refine wA ?_;intros))
    refine aZ rfl rfl (eA _ e x.n 0 1048576 q2 zo) ?_;rintro _ _ ⟨rfl,rfl⟩;refine O.rem rfl rfl (by decide) rfl ?_;rw [hp];refine wB ?_;apply br
    ·exact zV
    exact ⟨Pu True::R,cj (show cz _ R from zE) (Ql R),_,nY,rfl,Lx _,rfl,rfl⟩
 ·obtain ⟨p,hp⟩:∃ p:Nat,within x.n 0 6=p:=⟨_,(Int.toNat_of_nonneg w1.1).symm⟩
  have Io:fM c x=⟨9,p,0,[]⟩:=by unfold fM;rw [aB zo,aB zo,aB zo,aI h,hp];rfl
  rw [h,Io]
  (repeat (refine wA ?_;intros))
  refine aZ rfl rfl (eA _ e x.n 0 6 q2 zo) ?_;rintro _ _ ⟨rfl,rfl⟩;rw [hp];refine wB ?_;apply br
  ·exact zV
  exact ⟨Pu True::R,cj (show cz _ R from zE) (Ql R),_,nY,rfl,Lx _,rfl,rfl⟩
 ·obtain ⟨p,hp⟩:∃ p:Nat,within x.n 0 20=p:=⟨_,(Int.toNat_of_nonneg w3.1).symm⟩
  obtain ⟨r,hr⟩:∃ r:Nat,within x.to 0 (c.k+1)=r:=⟨_,(Int.toNat_of_nonneg w4.1).symm⟩
  have Io:fM c x=⟨10,p,r,[]⟩:=by unfold fM;rw [aB zo,aB zo,aB zo,aB zo,aI h,hp,hr];rfl
  rw [h,Io]
  (repeat (refine wA ?_;intros))
  rename_i g2 g3 g4 g6 g5;refine bk (id:=18) [11,12] (cK g2 x.cells 176 (0,0)::cK g3 (fX c) iT (0,0)::R) mixed ?_
  (refine tF 0 ?_;refine tL 1 ?_;refine tF 2 ?_;refine tL 3 ?_;refine tk 4 _ rfl (cD.kP rfl rfl zo) ?_;refine tF 6 ?_;refine tL 7 ?_)
  refine tO 5 ?_;refine bg rfl rfl (eA _ e x.to 0 (c.k+1) q3 zo) ?_;rintro _ _ ⟨rfl,rfl⟩;rw [hr];refine ⟨fun _=>zE,?_⟩
  (refine tF 9 ?_)
  refine tO 8 ?_;refine bg rfl rfl (eA _ e x.n 0 20 q2 zo) ?_;rintro _ _ ⟨rfl,rfl⟩;rw [hp];refine ⟨fun _=>zE,?_⟩
  ((refine tO 10 ?_;refine tg ?_;refine ⟨fun _=>(by (repeat first|exact zE|exact bF|refine bh ?_|(apply bw;exact zP)|refine cz.drop ?_);done),?_⟩);(refine tO 11 ?_;refine dV (ba rfl) ?_);(refine tO 12 ?_;refine tg ?_;refine ⟨zN,?_⟩))
  refine bf zK ?_;refine wB ?_;apply br
  ·exact zV
  exact ⟨Pu True::R,cj (show cz _ R from zE) (Ql R),_,nY,rfl,Lx _,rfl,rfl⟩
 ·have Io:fM c x=⟨uT x.kind,0,0,[]⟩:=by unfold fM;rw [aB zo,aB zo,aB zo,aB zo,aB zo]
  rw [Io];rcases h with h|h|h|h<;>rw [h]
  all_goals
   (repeat (refine wA ?_;intros))
   apply br
   ·exact zV
   exact ⟨Pu True::R,cj (show cz _ R from zE) (Ql R),_,nY,rfl,Lx _,rfl,rfl⟩
theorem F3 (R L0:List cJ) (f0:cz R L0) (e:World) (c:dh) (Ga:c.k≤3) (vl:Value) (ds:List Gg) (fE:Nat) (hl:cE R 6 vl ds.length (ds.flatMap Gg.cells)) (hd:∀ x∈ds,x.ok∧db L0 x.u x.b) (hm:fE≤1000) :
 Ct prog 33 #[vl,.agg (fX c).toArray,.int .i64 (fE:Int)] e R (fun v' L'=>∃ (ts:List (It × Value)) (M:cJ) (ad:Option Addr) (k:Nat),v'=.slice ad ts.length k∧ts.map (·.1)=(ds.take fE).map (fM c)∧(∀ t∈ts,db (M::L0) t.2 t.1.b)∧L'=dJ eM 5 (.slice ad ts.length k) ts.length (ts.flatMap FJ.cells)::M::R):=by
 refine a7 (hl.shape zo) ?_;rintro ⟨⟨Mv,c0,rfl,-,a4,-,a6⟩,_⟩;simp only [maxLen] at a4
 refine a8 (args:=[_,_,_]) func33 rfl ntmps33 results33 rfl ?_
 (repeat (refine wA ?_;intros))
 rename_i g4;refine bq (ι:=List (It × Value) × cJ × Option Addr × Nat) (fun q=>[(0,.slice Mv ds.length c0),(2,.int .i64 (fE:Int)),(4,ptr g4),(7,.slice q.2.2.1 q.1.length q.2.2.2),(8,.int .i64 (q.1.length:Int))]) (fun q=>dJ eM 5 (.slice q.2.2.1 q.1.length q.2.2.2) q.1.length (q.1.flatMap FJ.cells)::q.2.1::cK g4 (fX c) iT (0,0)::R)
  (fun q=>q.1.map (·.1)=(ds.take q.1.length).map (fM c)∧(∀ t∈q.1,db (q.2.1::L0) t.2 t.1.b)∧q.1.length≤ds.length∧q.1.length≤fE) (fun q=>ds.length - q.1.length) ([],Pu True,none,0) ⟨rfl,(fun t ht=>absurd ht aP),aH _,aH _⟩ zS (cj (m7 trivial) (cj (du eM 5) zE)) ?_
 rintro ⟨ts,M,ad,k⟩ ⟨fy,jx,hle,Up⟩;dsimp only at fy jx hle Up ⊢
 by_cases Hf:¬ (ts.length<ds.length∧ts.length<fE)
 ·have hq:ds.take ts.length=ds.take fE:=by
   by_cases h:ts.length=fE
   ·rw [h]
   ·rw [aG (show ds.length≤ts.length by omega),aG (show ds.length≤fE by omega)]
  rw [hq] at fy
  by_cases cO:ts.length<ds.length
  ·have Qg:¬ ts.length<fE:=fun h=>Hf ⟨cO,h⟩
   refine wB ?_
   all_goals exact aY (dJ eM 5 (.slice ad ts.length k) ts.length (ts.flatMap FJ.cells)::M::R) rfl zE ⟨ts,M,ad,k,rfl,fy,jx,rfl⟩
  ·refine wB ?_
   all_goals exact aY (dJ eM 5 (.slice ad ts.length k) ts.length (ts.flatMap FJ.cells)::M::R) rfl zE ⟨ts,M,ad,k,rfl,fy,jx,rfl⟩
 obtain ⟨cO,WV⟩:=Decidable.not_not.1 Hf;rcases a6 with a6|⟨gl,ol,rfl⟩
 ·omega
 have hg:ds[ts.length]?=some (ds[ts.length]'cO):=ae cO;obtain ⟨j0,hbx⟩:=hd _ (az cO);have ft:ds.take (ts.length+1)=ds.take ts.length++[ds[ts.length]'cO]:=aD cO
 generalize ds[ts.length]'cO=x at hg j0 hbx ft
 have hr:dZ R gl (ol+ts.length*6) x.cells:=dZ.elem hl ab6 hg;refine W.cB (cn (hbx.cL (cj (show cz _ R from zE) f0))) fun o=>?_
 refine wB ?_;refine bk (id:=5) [9] (cK g4 (fX c) iT (0,0)::R) mixed ?_
 (refine tM 0 ?_;refine tM 1 ?_;refine tM 2 ?_)
 refine tk 3 _ rfl (bD rfl rfl zo) ?_;refine tk 4 _ rfl (cD.dy rfl hr.tail zX) ?_
 (refine tJ 5 ?_)
 refine tO 6 ?_;refine bg rfl rfl (Lw _ L0 (cj (show cz _ R from zE) f0) e c Ga x j0 hbx) ?_;rintro _ _ ⟨A1,v,rfl,hv,ho,rfl⟩;refine ⟨fun _=>zE,?_⟩;refine tO 7 ?_;refine bE rfl rfl (by rfl) (by rfl) zQ (by rfl) (fun g=>⟨fun _=>zE,?_⟩);refine tO 8 ?_;refine bo rfl rfl rfl (show cQ _ (dJ eM 5 (.slice ad ts.length k) ts.length (ts.flatMap FJ.cells)) _ from zP) (bO (n:=5) (c:=1) zP rfl zl) rfl rfl zO zm zo fun eI c3 _=>⟨fun _=>zE,?_⟩
 ((refine tO 9 ?_;refine dV (bj rfl) ?_))
 refine bf zK ?_;have qh:(ts++[(fM c x,v)]).length=ts.length+1:=by rw [aa];rfl
 refine wB ?_;refine bi (ts++[(fM c x,v)],dH [M,A1],eI,c3) ⟨?_,?_,?_,?_⟩ zd ?_ ?_
 ·dsimp only;rw [qh,ft,ah,ah,fy]
  rfl
 ·dsimp only;intro t ht;rcases aJ.1 ht with ht|ht
  ·exact (jx t ht).cL (cj (cT (M:=[M,A1]) (L:=L0)) zE)
  ·rw [an.1 ht];exact hv.cL (cj (cT (M:=[M,A1]) (L:=L0)) zE)
 ·dsimp only;omega
 ·dsimp only;omega
 ·dsimp only;rw [qh];exact zS
 ·dsimp only;rw [qh,aW,aU,List.flatMap_nil,aK];refine cj (show cz _ (M::A1::dJ eM 5 (.slice eI (ts.length+1) c3) (ts.length+1) (ts.flatMap FJ.cells++FJ.cells (fM c x,v))::cK g4 (fX c) iT (0,0)::R) from zE) ?_;exact cj (dQ (M:=[M,A1])) zE
end Go.Proofs
namespace Go.Proofs
open Go.Bs
open Tryz
theorem Ip {W:World} {v:Value} (h:OB prog W 70 v) :
 ∃ l:List Gg,cE [eY W] 6 v l.length (l.flatMap Gg.cells)∧∀ x∈l,x.ok∧db [eY W] x.u x.b:=by
 obtain ⟨v',css,h0,h1,h2,h3⟩:=AY (n:=6) underlying70 zK zo (Gr underlying70 h)
 cases h0
 obtain ⟨l,rfl,h4⟩:=u4 (α:=Gg) (f:=Gg.cells) (ok:=fun a=>a.ok∧db [eY W] a.u a.b) (css:=css) fun c hc=>by
  obtain ⟨h5,h6⟩:=h3 c hc
  match c,h5 with
  | [c0,c1,c2,c3,c4,c5],_ =>
   obtain ⟨k0,e0,w0⟩:=oK underlying3 (mv (i:=0) underlying176 h6 rfl zK rfl);obtain ⟨k1,e1,w1⟩:=oK underlying3 (mv (i:=1) underlying176 h6 rfl zK rfl);obtain ⟨k2,e2,w2⟩:=oK underlying3 (mv (i:=2) underlying176 h6 rfl zK rfl);obtain ⟨k3,e3,w3⟩:=oK underlying3 (mv (i:=3) underlying176 h6 rfl zK rfl);obtain ⟨k4,e4,w4⟩:=oK underlying3 (mv (i:=4) underlying176 h6 rfl zK rfl);obtain ⟨u,b,e5,w5,_⟩:=JE underlying30 underlying5 zK zK (mv (i:=5) underlying176 h6 rfl zK rfl)
   cases e0;cases e1;cases e2;cases e3;cases e4;cases e5
   exact ⟨⟨k0,k1,k2,k3,k4,c5,b⟩,rfl,⟨kU w0,kU w1,kU w2,kU w3,kU w4⟩,w5⟩
 rw [ab] at h1
 rw [← List.flatMap_def] at h1
 exact ⟨l,h1,h4⟩
end Go.Proofs
namespace Go.Proofs
attribute [local irreducible] Bs.cD Bs.Do Bs.O Bs.W Bs.Fin Bs.A Bs.Ct Bs.cE Bs.Rd Bs.Sat Bs.cK Bs.Ob Bs.dJ Bs.View Bs.cz Bs.Ex Bs.dH Bs.Pu Bs.eY Bs.dM Bs.dZ
open Go.Bs
open Tryz
theorem TM {w:Nat} {c:dh} {m:Nat} {s:da} {ev:List (Int × Int × Int × dv)} {L R:List cJ} (p:cQ L (dO w c m s ev) R):∀ h,dM L h→s.ok c m∧ev.length≤600*m:=fun h x =>
 (jQ (Tm (cj p.out (jF fun a=>jF fun M=>cj (cT (M:=[Pu (a.es.map (fun x=>(x.k,x.a,x.b,x.t))=ev),uG w c m s a M]) (L:=R)) (rZ fun he=>cj (cT (M:=Pu (a.ok M w c m s)::dR w c s a M []) (L:=R)) (rZ fun ha=>cj (m7 (p:=s.ok c m∧ev.length≤600*m) ⟨ha.st,by rw [← he,ab];exact ha.ec⟩) (show cz _ [Pu (s.ok c m∧ev.length≤600*m)] from bh bF))))) x)).1
theorem da.Qe {c:dh} {m:Nat} {s:da} {x:It} (h:s.ok c m) (hx:x.k=6):(s.Im c x).2.2≠12∧(s.Im c x).2.2≠30∧(s.Im c x).2.2≠34∧(s.Im c x).2.2≠33:=by
 unfold da.Im;rw [aB zo,aB zo]
 have e6:s.FI c x=s.Ad c x.n:=by
  obtain ⟨k,n,to,b⟩:=x;dsimp only at hx
  subst hx
  rfl
 rw [e6];unfold da.Ad
 split
 ·show (1:Int)≠12∧(1:Int)≠30∧(1:Int)≠34∧(1:Int)≠33
  decide
 ·rename_i y hy;have hy2:=h.eh y (ax hy)
  cases y with
  | ask j x n k path =>
   show (s.lost _).qL j x.dc n≠12∧(s.lost _).qL j x.dc n≠30∧(s.lost _).qL j x.dc n≠34∧(s.lost _).qL j x.dc n≠33
   unfold da.qL eN.K6;repeat' split
   all_goals omega
  | iP j g =>
   show da.oB c _ j g 0≠12∧da.oB c _ j g 0≠30∧da.oB c _ j g 0≠34∧da.oB c _ j g 0≠33
   unfold da.oB
   split<;>omega
  | no j z =>
   show da.oB c _ j fW z≠12∧da.oB c _ j fW z≠30∧da.oB c _ j fW z≠34∧da.oB c _ j fW z≠33
   unfold da.oB
   split<;>omega
  | off b =>
   have h0:lQ (cZ c) b=0:=hy2.2.2.2
   show da.kg c _ b≠12∧da.kg c _ b≠30∧da.kg c _ b≠34∧da.kg c _ b≠33
   unfold da.kg m2.kg;rw [aB (fun q=>q h0)];repeat' split
   all_goals omega
theorem vY (R:List cJ) (e:World) (v1:Value) (n:Int) (ds:List Gg) (hn:Lv n) (hl:cE R 6 v1 ds.length (ds.flatMap Gg.cells)) (hd:∀ x∈ds,x.ok∧db R x.u x.b) :
 Ct prog 5 #[.int .i64 n,v1] e R (fun v' L'=>v'=.bool true∧R=L'):=by
 refine a7 (hl.shape zo) ?_;rintro ⟨⟨Mv,c0,rfl,-,a4,-,a6⟩,_⟩;refine a8 (args:=[_,_]) func5 rfl ntmps5 results5 rfl ?_;refine wB ?_;refine aZ rfl rfl (wV _ e n 1 8 2 1 1 hn zo zo zo zo zo) ?_;rintro _ _ ⟨rfl,rfl⟩;have hc:=Qd n 1 8 2 1 1
 generalize uN n 1 8 2 1 1=c at *
 (repeat (refine wA ?_;intros))
 rename_i g5;refine aZ rfl rfl (z4 _ e c hc) ?_;rintro _ _ ⟨w,rfl,rfl⟩;refine wB ?_;refine aZ rfl rfl (F3 _ R zE e c hc.k.2 _ ds 50 (hl.cL zE) hd zo) ?_;rintro _ _ ⟨ts,M,ad,k,rfl,fy,jx,rfl⟩
 have hle:ts.length≤50:=by
  have h:=congrArg List.length fy;rw [ab,ab,aF] at h
  omega
 have si:∀ t∈ts,∃ x,t.1=fM c x:=fun t ht=>by
  have h1:t.1∈ts.map (·.1):=aE.2 ⟨t,ht,rfl⟩;rw [fy] at h1
  obtain ⟨x,-,h2⟩:=aE.1 h1;exact ⟨x,h2.symm⟩
 refine wB ?_;refine bq (ι:=Nat × da × List (Int × Int × Int × dv)) (fun q=>[(6,ptr w),(7,.slice ad ts.length k),(8,.int .i64 (q.1:Int))]) (fun q=>dJ eM 5 (.slice ad ts.length k) ts.length (ts.flatMap FJ.cells)::M::dO w c q.1 q.2.1 q.2.2::R)
  (fun q=>q.1≤ts.length) (fun q=>ts.length - q.1) (0,pC c,[]) (aH _) zS zE ?_
 rintro ⟨i,s,ev⟩ hi;dsimp only at hi ⊢
 refine W.cB (TM (show cQ _ (dO w c i s ev) _ from zP)) fun hs=>?_
 by_cases cO:i<ts.length
 ·refine W.cB (fO (show cQ _ (dJ eM 5 (.slice ad ts.length k) ts.length (ts.flatMap FJ.cells)) _ from zP)) ?_;rintro ⟨⟨lL,k',lV,hk1,xN,h7⟩,-⟩
  cases lV
  rcases h7 with ⟨-,-,h7⟩|⟨gt,rfl⟩
  ·omega
  have hg:ts[i]?=some (ts[i]'cO):=ae cO;obtain ⟨x,hx⟩:=si _ (az cO);have rI:=jx _ (az cO)
  generalize ts[i]'cO=t at hg hx rI
  obtain ⟨hk,Ra,QS,hb⟩:=Oa c x;rw [← hx] at hk Ra QS hb
  have TZ:∀ (L R':List cJ),cQ L (dJ eM 5 (.slice (some ⟨gt,0,none⟩) ts.length k) ts.length (ts.flatMap FJ.cells)) R'→Rd L ⟨gt,0+i*5+0,none⟩ (.int .i64 (t.1.k:Int)):=fun L R' p=>cE.elemOf (bb p) Th hg rfl
  have Vq:∀ (L R':List cJ),cQ L (dJ eM 5 (.slice (some ⟨gt,0,none⟩) ts.length k) ts.length (ts.flatMap FJ.cells)) R'→dZ L gt (0+i*5) (FJ.cells t):=fun L R' p=>dZ.elem (bb p) Th hg
  refine W.cB (cn (rI.cL (show cz _ (M::R) from zE))) fun o=>?_
  refine wB ?_;refine O.dy rfl (Vq _ _ zP) zX rfl ?_;refine aZ rfl rfl (Ct.at (show cQ _ (dO w c i s ev) _ from zP) (Lu _ e w c i s ev t.1 t.2 (rI.cL zE) hk Ra QS hb zo)) ?_;rintro _ _ ⟨rfl,_,⟨jP,JG,rfl⟩,rfl⟩;have ab8:t.1.k=6→(s.Im c t.1).2.2≠12∧(s.Im c t.1).2.2≠30∧(s.Im c t.1).2.2≠34∧(s.Im c t.1).2.2≠33:=fun h6=>da.Qe hs.1 h6
  generalize s.Im c t.1=y at *
  by_cases h6:t.1.k=6
  ·obtain ⟨y1,y2,y3,y4⟩:=ab8 h6
   (repeat (refine wA ?_;intros))
   refine bV rfl (TZ _ _ zP) rfl ?_;rw [h6];refine wB ?_;refine bi (i+1,y.1,ev++jP) cO zd zS zE
  ·(repeat (refine wA ?_;intros))
   refine bV rfl (TZ _ _ zP) rfl ?_;refine wB ?_;refine bi (i+1,y.1,ev++jP) cO zd zS zE
 refine wB ?_;refine FK (show cQ _ (dO w c i s ev) _ from zP) fun a M2 ha he=>?_
 refine aZ rfl rfl (Ct.at zP (rU _ e w c s a)) ?_;rintro _ _ ⟨rfl,rfl⟩;refine aZ rfl rfl (Ct.at zP (C7 _ e a.gm dN s.mo)) ?_;rintro _ _ ⟨rfl,rfl⟩;refine wB ?_;refine aZ rfl rfl (Ig _ e) ?_;rintro _ _ ⟨rfl,rfl⟩;refine wB ?_;exact aY R rfl zE ⟨rfl,rfl⟩
end Go.Proofs
namespace Go.Proofs.YtccekbdjebohcaaGreat.topMessages
open Go.ChangeShapes Go.WideShapes Go.ChangeAt Go.RowKit Go.Bs
set_option maxRecDepth 100000 in
theorem walk (W:World) (vs:List Value) (h:OC Tryz.prog W [3,70] vs) :
 Calls Tryz.prog 5 vs.toArray W fun e w'=>e=.returned (.bool true)∧Below W.heap.size W w':=by
 match vs,h with
 | [v0,v1],⟨h0,h1,_⟩ =>
  obtain ⟨a0,rfl,w0⟩:=LX Tryz.underlying3 h0;obtain ⟨a1,r1,t1⟩:=Ip h1;exact Ct.calls ((vY [eY W] W v1 a0 a1 (kU w0) r1 t1).mono fun v L' ⟨h1,h2⟩=>⟨h1,[],h2.symm⟩)
theorem own:ownKnob Tryz.prog.godebug=none:=by kernel_rfl
set_option maxRecDepth 100000 in
theorem lifted (os:Os) (started:os.Started) (H:Type) (enc:TypeId × Value→H) :
 ReturnsInHanded {} Tryz.checked os 5 .any (Rows.topMessagesSpec.pre6 enc Tryz.prog Tryz.f5 Rows.topMessagesRow.domain false) (Rows.topMessagesSpec.post enc Tryz.prog Tryz.f5 false true false false) :=
 Gs (C:=Tryz.checked) (fn:=Tryz.f5) own started (by kernel_rfl) Tryz.func5
  (ChangeSpec.witness6 (enc:=enc) (C:=Tryz.checked) false ⟨#[],#[.int .i64 0,.slice none 0 0],[]⟩ 8 (by kernel_rfl) (by kernel_rfl) (by kernel_rfl) (by kernel_rfl))
  rfl rfl (fun ds h=>by
   rw [Tryz.params5] at h
   match ds,h with
   | [_,_],_=>rfl)
  rfl Tryz.underlying4 (by kernel_rfl) (by decide +kernel) (fun W vs h=>walk W vs (by rw [Tryz.params5] at h;exact h))
theorem jX {a b:Bool} (h:a=true) (h2:b=true):(a && b)=true:=by rw [h,h2];rfl
set_option maxHeartbeats 4000000 in
theorem closed:joinedFacts Tryz.prog 5 Tryz.f5 Rows.topMessagesSpec Rows.topMessagesRow=true:=by
 unfold joinedFacts;refine jX (jX (jX (jX (jX (jX (jX (jX (jX (jX (jX (jX (jX (jX (jX (jX (jX (jX (jX (jX (jX (jX (jX (jX (jX (jX (jX (jX (jX (jX (jX ?_ ?_) ?_) ?_) ?_) ?_) ?_) ?_) ?_) ?_) ?_) ?_) ?_) ?_) ?_) ?_) ?_) ?_) ?_) ?_) ?_) ?_) ?_) ?_) ?_) ?_) ?_) ?_) ?_) ?_) ?_) ?_
 all_goals (as_aux_lemma=>kernel_rfl)
theorem over:Rows.topMessagesRow.holds Tryz.pinned (OpenSpec.ofChange Rows.topMessagesSpec) :=
 OpenClaim.holds_of_wide 5 Tryz.f5 rfl rfl rfl rfl rfl rfl rfl ⟨rfl,rfl,rfl,rfl,rfl⟩ rfl rfl rfl rfl rfl (by kernel_rfl) Tryz.func5 closed
  (of_decide_eq_true (by kernel_rfl)) (by unfold Func.isWrapper;first|(rw [aI (by decide +kernel)];kernel_rfl)|(rw [aB (by decide +kernel)];exact ⟨rfl,rfl⟩))
  (fun os started H enc _=>lifted os started H enc)
theorem proved:Rows.TopMessagesSaid:=over
#print axioms proved
end Go.Proofs.YtccekbdjebohcaaGreat.topMessages
