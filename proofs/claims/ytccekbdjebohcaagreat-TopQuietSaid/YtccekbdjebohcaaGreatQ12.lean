/- TopQuiet returns true for any arguments; nothing of the old memory is turned. No condition. -/
import Derived.Test.YtccekbdjebohcaaGreatQ11
set_option linter.unusedVariables false
set_option linter.unusedSimpArgs false
namespace Go.Bs
def lk:Nat→(Nat→Nat)→Nat
 | 0,_=>0
 | n+1,f=>f 0+2 ^ 64*lk n fun i=>f (i+1)
abbrev pk (n:Nat) (f:Nat→UInt32):Nat:=lk n fun i=>(f i).toNat
theorem kM {n:Nat} {f g:Nat→UInt32} (h:∀ i,f i=g i):pk n f=pk n g:=congrArg (pk n) (funext h)
def l7 (n:Nat):Nat:=lk n fun _=>4294967295
theorem mw (n:Nat) (f:Nat→UInt32):pk (n+1) f=(f 0).toNat+2 ^ 64*pk n fun i=>f (i+1):=rfl
theorem hF (n:Nat) (f:Nat→Nat):lk (n+1) f=f 0+2 ^ 64*lk n fun i=>f (i+1):=rfl
theorem gx {x:Nat} (X:Nat) (h:x<2 ^ 64) (j:Nat):(x+2 ^ 64*X).testBit j=if j<64 then x.testBit j else X.testBit (j - 64):=by
 rw [Nat.add_comm,Nat.testBit_two_pow_mul_add X h]
theorem FY {x y X Y:Nat} (hx:x<2 ^ 64) (hy:y<2 ^ 64):(x+2 ^ 64*X) &&& (y+2 ^ 64*Y)=(x &&& y)+2 ^ 64*(X &&& Y):=by
 apply Nat.eq_of_testBit_eq;intro j;rw [Nat.testBit_and,gx _ hx,gx _ hy,gx _ (Nat.lt_of_le_of_lt Nat.and_le_left hx),Nat.testBit_and,Nat.testBit_and]
 split<;>rfl
theorem PZ {x y X Y:Nat} (hx:x<2 ^ 64) (hy:y<2 ^ 64):(x+2 ^ 64*X) ||| (y+2 ^ 64*Y)=(x ||| y)+2 ^ 64*(X ||| Y):=by
 apply Nat.eq_of_testBit_eq;intro j;rw [Nat.testBit_or,gx _ hx,gx _ hy,gx _ (Nat.or_lt_two_pow hx hy),Nat.testBit_or,Nat.testBit_or]
 split<;>rfl
theorem NR {x y X Y:Nat} (hx:x<2 ^ 64) (hy:y<2 ^ 64):(x+2 ^ 64*X) ^^^ (y+2 ^ 64*Y)=(x ^^^ y)+2 ^ 64*(X ^^^ Y):=by
 apply Nat.eq_of_testBit_eq;intro j;rw [Nat.testBit_xor,gx _ hx,gx _ hy,gx _ (Nat.xor_lt_two_pow hx hy),Nat.testBit_xor,Nat.testBit_xor]
 split<;>rfl
theorem lW (x:UInt32):x.toNat<2 ^ 64:=Nat.lt_trans x.toNat_lt (by decide)
theorem vX:∀ (n:Nat) (f g:Nat→UInt32),pk n f &&& pk n g=pk n fun i=>f i &&& g i
 | 0,_,_=>by show 0 &&& 0=0;decide
 | n+1,f,g=>by
  rw [mw,mw,mw,FY (lW _) (lW _),vX n,UInt32.toNat_and]
theorem FZ:∀ (n:Nat) (f g:Nat→UInt32),pk n f ||| pk n g=pk n fun i=>f i ||| g i
 | 0,_,_=>by show 0 ||| 0=0;decide
 | n+1,f,g=>by
  rw [mw,mw,mw,PZ (lW _) (lW _),FZ n,UInt32.toNat_or]
theorem lm:∀ (n:Nat) (f g:Nat→UInt32),pk n f ^^^ pk n g=pk n fun i=>f i ^^^ g i
 | 0,_,_=>by show 0 ^^^ 0=0;decide
 | n+1,f,g=>by
  rw [mw,mw,mw,NR (lW _) (lW _),lm n,UInt32.toNat_xor]
theorem m5:∀ (n:Nat) (f g:Nat→Nat),lk n f+lk n g=lk n fun i=>f i+g i
 | 0,_,_=>rfl
 | n+1,f,g=>by
  rw [hF,hF,hF,← m5 n]
  omega
theorem Du:∀ (n:Nat) (f:Nat→Nat) (k:Nat),lk n f*k=lk n fun i=>f i*k
 | 0,_,_=>Nat.zero_mul _
 | n+1,f,k=>by
  rw [hF,hF,← Du n,Nat.add_mul,Nat.mul_assoc]
theorem Tr (x:Nat):x &&& 4294967295=x % 2 ^ 32:=Nat.and_two_pow_sub_one_eq_mod x 32
theorem rl:∀ (n:Nat) (f:Nat→Nat),(∀ i,f i<2 ^ 64)→lk n f &&& l7 n=pk n fun i=>UInt32.ofNat (f i)
 | 0,_,_=>by show 0 &&& 0=0;decide
 | n+1,f,h=>by
  show (f 0+2 ^ 64*lk n _) &&& (4294967295+2 ^ 64*l7 n)=_
  rw [FY (h 0) (by decide),rl n _ fun i=>h (i+1),Tr]
  show _=(UInt32.ofNat (f 0)).toNat+_
  rw [UInt32.toNat_ofNat']
theorem uO (n:Nat) (k:UInt32):pk n (fun _=>k)=lk n (fun _=>1)*k.toNat:=by rw [Du];simp [pk]
theorem Ts (n:Nat):l7 n=lk n (fun _=>1)*4294967295:=by rw [Du];simp [l7]
theorem Tt (n:Nat):l7 n=pk n fun _=>4294967295:=rfl
theorem z4 (n:Nat) (f:Nat→UInt32) (k:Nat) (hk:k<32):(pk n f <<< k) &&& l7 n=pk n fun i=>f i <<< UInt32.ofNat k:=by
 rw [Nat.shiftLeft_eq,Du,rl]
 ·congr 1;funext i
  have h:UInt32.ofNat ((f i).toNat*2 ^ k)=f i <<< UInt32.ofNat k:=by
   apply UInt32.toNat_inj.1;rw [UInt32.toNat_ofNat',UInt32.toNat_shiftLeft,UInt32.toNat_ofNat_of_lt' (Nat.lt_trans hk (by decide)),Nat.mod_eq_of_lt hk,Nat.shiftLeft_eq]
  rw [h]
 ·intro i;have h1:=(f i).toNat_lt;have h2:2 ^ k≤2 ^ 32:=Nat.pow_le_pow_right (by decide) zo
  calc (f i).toNat*2 ^ k<2 ^ 32*2 ^ k:=Nat.mul_lt_mul_of_pos_right h1 (Nat.two_pow_pos k)
   _≤2 ^ 32*2 ^ 32:=Nat.mul_le_mul_left _ h2
   _=2 ^ 64:=by decide
theorem oE (k:Nat) (hk:k<32):∀ (n:Nat) (f:Nat→UInt32),(pk n f >>> k) &&& l7 n=pk n fun i=>f i >>> UInt32.ofNat k
 | 0,_=>by show (0 >>> k) &&& 0=0;rw [Nat.and_zero]
 | n+1,f=>by
  have ih:=oE k hk n fun i=>f (i+1)
  have hm:((f 0) >>> UInt32.ofNat k).toNat=(f 0).toNat >>> k:=by
   rw [UInt32.toNat_shiftRight,UInt32.toNat_ofNat_of_lt' (Nat.lt_trans hk (by decide)),Nat.mod_eq_of_lt hk]
  apply Nat.eq_of_testBit_eq;intro j
  show Nat.testBit ((((f 0).toNat+2 ^ 64*pk n fun i=>f (i+1)) >>> k) &&& (4294967295+2 ^ 64*l7 n)) j=Nat.testBit (((f 0) >>> UInt32.ofNat k).toNat+2 ^ 64*pk n fun i=>f (i+1) >>> UInt32.ofNat k) j
  rw [← ih,Nat.testBit_and,Nat.testBit_shiftRight,gx _ (lW _),gx _ (by decide),gx _ (lW _),hm]
  by_cases h1:j<64
  ·rw [aI h1,aI h1,show (4294967295:Nat)=2 ^ 32 - 1 by decide,Nat.testBit_two_pow_sub_one,Nat.testBit_shiftRight]
   by_cases h2:j<32
   ·rw [aI zo,ay h2,Bool.and_true]
   ·rw [aq h2,Bool.and_false,Nat.testBit_lt_two_pow];exact Nat.lt_of_lt_of_le (f 0).toNat_lt (Nat.pow_le_pow_right (by decide) zo)
  ·rw [aB h1,aB h1,aB zo,Nat.testBit_and,Nat.testBit_shiftRight,show k+j - 64=k+(j - 64) by omega]
theorem Dv:∀ (m n:Nat) (f:Nat→Nat),(∀ i,f i<2 ^ 64)→lk m f=lk (m+n) f % 2 ^ (64*m)
 | 0,n,f,_=>by show 0=_;rw [Nat.mul_zero,Nat.pow_zero,Nat.mod_one]
 | m+1,n,f,h=>by
  rw [show m+1+n=m+n+1 by omega,hF,hF,Dv m n _ fun i=>h (i+1),Nat.mul_add,Nat.pow_add,Nat.mul_one,Nat.mul_comm (2 ^ (64*m)) (2 ^ 64),Nat.mod_mul];have h0:=h 0
  generalize lk (m+n) _=X
  rw [Nat.add_mul_mod_self_left,Nat.mod_eq_of_lt h0,Nat.add_mul_div_left _ _ (by decide),Nat.div_eq_of_lt h0,aC]
theorem Dw:∀ (m n:Nat) (f:Nat→Nat),(∀ i,f i<2 ^ 64)→lk n (fun i=>f (m+i))=lk (m+n) f >>> (64*m)
 | 0,n,f,_=>by rw [aC,Nat.mul_zero,Nat.shiftRight_zero];congr 1;funext i;rw [aC]
 | m+1,n,f,h=>by
  have ih:=Dw m n (fun i=>f (i+1)) fun i=>h (i+1)
  have h0:=h 0;rw [show m+1+n=m+n+1 by omega,hF,Nat.mul_add,Nat.mul_one,Nat.add_comm (64*m) 64,Nat.shiftRight_add]
  rw [show (f 0+2 ^ 64*lk (m+n) fun i=>f (i+1)) >>> 64=lk (m+n) fun i=>f (i+1) by
   rw [Nat.shiftRight_eq_div_pow,Nat.add_mul_div_left _ _ (by decide),Nat.div_eq_of_lt h0,aC]]
  rw [← ih]
  congr 1;funext i;rw [show m+i+1=m+1+i by omega]
theorem Tu (m n k:Nat) (f:Nat→UInt32):pk n (fun i=>f (m+i))=(pk (m+(n+k)) f >>> (64*m)) % 2 ^ (64*n):=by
 rw [← Dw m (n+k) _ fun i=>lW _,← Dv n k _ fun i=>lW _]
theorem NS:∀ (m n:Nat) (f:Nat→Nat),lk (m+n) f=lk m f+2 ^ (64*m)*lk n fun i=>f (m+i)
 | 0,n,f=>by
  show _=0+_
  rw [aC,aC,Nat.mul_zero,Nat.pow_zero,Nat.one_mul];congr 1;funext i;rw [aC]
 | m+1,n,f=>by
  rw [show m+1+n=m+n+1 by omega,hF,hF,NS m n,Nat.mul_add (2 ^ 64),← Nat.mul_assoc,← Nat.pow_add,show 64+64*m=64*(m+1) by omega,Nat.add_assoc]
  congr 4;funext i;rw [show m+i+1=m+1+i by omega]
def uL (m:Nat):Nat→Nat
 | 0=>0
 | k+1=>1+2 ^ (64*m)*uL m k
theorem NT (m:Nat) (g:Nat→Nat) (hm:0<m):∀ k,lk (k*m) (fun i=>g (i % m))=lk m g*uL m k
 | 0=>by rw [Nat.zero_mul];rfl
 | k+1=>by
  rw [show (k+1)*m=m+k*m by rw [Nat.add_mul,Nat.one_mul,Nat.add_comm],NS]
  have h1:lk m (fun i=>g (i % m))=lk m g:=by
   have key:∀ (n o:Nat),n+o≤m→lk n (fun i=>g ((o+i) % m))=lk n (fun i=>g (o+i)):=by
    intro n
    induction n with
    | zero=>intro o _;rfl
    | succ n ih =>
     intro o ho;rw [hF,hF,Nat.add_zero,Nat.mod_eq_of_lt zo];have:=ih (o+1) zo;rw [show (fun i=>g ((o+(i+1)) % m))=fun i=>g ((o+1+i) % m) by funext i;rw [show o+(i+1)=o+1+i by omega],this]
     congr 3;funext i;rw [show o+(i+1)=o+1+i by omega]
   have:=key m 0 zo
   simpa using this
  have h2:(fun i=>g ((m+i) % m))=fun i=>g (i % m):=by funext i;rw [Nat.add_mod_left]
  rw [h1,h2,NT m g hm k]
  show _=lk m g*(1+2 ^ (64*m)*uL m k)
  rw [Nat.mul_add,Nat.mul_one,Nat.mul_left_comm]
def force {α:Type} (n:Nat) (k:Nat→α):α:=Nat.rec (k 0) (fun m _=>k (m+1)) n
theorem force_eq {α:Type} (n:Nat) (k:Nat→α):force n k=k n:=by cases n<;>rfl
def vr (A r s:Nat):Nat:=Nat.lor (Nat.shiftRight A r) (Nat.shiftLeft A s)
theorem rS (n:Nat) (f:Nat→UInt32) (r s:Nat) (hr:0<r∧r<32) (hs:s=32 - r):vr (pk n f) r s &&& l7 n=pk n fun i=>tE (f i) r:=by
 subst hs
 show (pk n f >>> r ||| pk n f <<< (32 - r)) &&& l7 n=_
 rw [Nat.and_or_distrib_right,oE r hr.2,z4 n f (32 - r) zo,FZ]
 rfl
def Tv (M A:Nat):Nat:=Nat.land (Nat.xor (Nat.xor (vr A 2 30) (vr A 13 19)) (vr A 22 10)) M
def Tw (M A:Nat):Nat:=Nat.land (Nat.xor (Nat.xor (vr A 6 26) (vr A 11 21)) (vr A 25 7)) M
def Tx (M A:Nat):Nat:=Nat.land (Nat.xor (Nat.xor (vr A 7 25) (vr A 18 14)) (Nat.shiftRight A 3)) M
def Ty (M A:Nat):Nat:=Nat.land (Nat.xor (Nat.xor (vr A 17 15) (vr A 19 13)) (Nat.shiftRight A 10)) M
def vch (M E F G:Nat):Nat:=Nat.xor (Nat.land E F) (Nat.land (Nat.xor M E) G)
def Tz (A B C:Nat):Nat:=Nat.xor (Nat.xor (Nat.land A B) (Nat.land A C)) (Nat.land B C)
theorem P0 (n:Nat) (f:Nat→UInt32):Tv (l7 n) (pk n f)=pk n fun i=>bs0 (f i):=by
 show ((vr (pk n f) 2 30 ^^^ vr (pk n f) 13 19) ^^^ vr (pk n f) 22 10) &&& l7 n=_
 rw [Nat.and_xor_distrib_right,Nat.and_xor_distrib_right,rS n f 2 30 zo rfl,rS n f 13 19 zo rfl,rS n f 22 10 zo rfl,lm,lm]
 rfl
theorem P1 (n:Nat) (f:Nat→UInt32):Tw (l7 n) (pk n f)=pk n fun i=>bs1 (f i):=by
 show ((vr (pk n f) 6 26 ^^^ vr (pk n f) 11 21) ^^^ vr (pk n f) 25 7) &&& l7 n=_
 rw [Nat.and_xor_distrib_right,Nat.and_xor_distrib_right,rS n f 6 26 zo rfl,rS n f 11 21 zo rfl,rS n f 25 7 zo rfl,lm,lm]
 rfl
theorem P2 (n:Nat) (f:Nat→UInt32):Tx (l7 n) (pk n f)=pk n fun i=>T3 (f i):=by
 show ((vr (pk n f) 7 25 ^^^ vr (pk n f) 18 14) ^^^ (pk n f >>> 3)) &&& l7 n=_
 rw [Nat.and_xor_distrib_right,Nat.and_xor_distrib_right,rS n f 7 25 zo rfl,rS n f 18 14 zo rfl,oE 3 zo,lm,lm]
 rfl
theorem P3 (n:Nat) (f:Nat→UInt32):Ty (l7 n) (pk n f)=pk n fun i=>T4 (f i):=by
 show ((vr (pk n f) 17 15 ^^^ vr (pk n f) 19 13) ^^^ (pk n f >>> 10)) &&& l7 n=_
 rw [Nat.and_xor_distrib_right,Nat.and_xor_distrib_right,rS n f 17 15 zo rfl,rS n f 19 13 zo rfl,oE 10 zo,lm,lm]
 rfl
theorem TA (n:Nat) (e f g:Nat→UInt32):vch (l7 n) (pk n e) (pk n f) (pk n g)=pk n fun i=>Zp (e i) (f i) (g i):=by
 show (pk n e &&& pk n f) ^^^ ((l7 n ^^^ pk n e) &&& pk n g)=_
 rw [Tt,lm,vX,vX,lm];unfold Zp
 congr 1
theorem P4 (n:Nat) (a b c:Nat→UInt32):Tz (pk n a) (pk n b) (pk n c)=pk n fun i=>Vj (a i) (b i) (c i):=by
 show ((pk n a &&& pk n b) ^^^ (pk n a &&& pk n c)) ^^^ (pk n b &&& pk n c)=_
 rw [vX,vX,vX,lm,lm]
 rfl
theorem fv (x:UInt32):x.toNat<4294967296:=x.toNat_lt
theorem Dx (n:Nat) (a b:Nat→UInt32):(pk n a+pk n b) &&& l7 n=pk n fun i=>a i+b i:=by
 rw [m5,rl]
 ·congr 1
 ·intro i;have h1:=fv (a i);have h2:=fv (b i)
  omega
theorem ab0 (n:Nat) (a b c:Nat→UInt32):(pk n a+pk n b+pk n c) &&& l7 n=pk n fun i=>a i+b i+c i:=by
 rw [m5,m5,rl]
 ·congr 1;funext i;rw [UInt32.ofNat_add,UInt32.ofNat_add,UInt32.ofNat_toNat,UInt32.ofNat_toNat,UInt32.ofNat_toNat]
 ·intro i;have h1:=fv (a i);have h2:=fv (b i);have h3:=fv (c i)
  omega
theorem ab1 (n:Nat) (a b c d:Nat→UInt32):(pk n a+pk n b+pk n c+pk n d) &&& l7 n=pk n fun i=>a i+b i+c i+d i:=by
 rw [m5,m5,m5,rl]
 ·congr 1;funext i;rw [UInt32.ofNat_add,UInt32.ofNat_add,UInt32.ofNat_add,UInt32.ofNat_toNat,UInt32.ofNat_toNat,UInt32.ofNat_toNat,UInt32.ofNat_toNat]
 ·intro i;have h1:=fv (a i);have h2:=fv (b i);have h3:=fv (c i);have h4:=fv (d i)
  omega
theorem ab2 (n:Nat) (a b c d e:Nat→UInt32):(pk n a+pk n b+pk n c+pk n d+pk n e) &&& l7 n=pk n fun i=>a i+b i+c i+d i+e i:=by
 rw [m5,m5,m5,m5,rl]
 ·congr 1;funext i;rw [UInt32.ofNat_add,UInt32.ofNat_add,UInt32.ofNat_add,UInt32.ofNat_add,UInt32.ofNat_toNat,UInt32.ofNat_toNat,UInt32.ofNat_toNat,UInt32.ofNat_toNat,UInt32.ofNat_toNat]
 ·intro i;have h1:=fv (a i);have h2:=fv (b i);have h3:=fv (c i);have h4:=fv (d i);have h5:=fv (e i)
  omega
structure V8 where
 a:Nat
 b:Nat
 c:Nat
 d:Nat
 e:Nat
 f:Nat
 g:Nat
 h:Nat
def uX (n:Nat) (s:Nat→S8):V8:=⟨pk n fun i=>(s i).a,pk n fun i=>(s i).b,pk n fun i=>(s i).c,pk n fun i=>(s i).d,pk n fun i=>(s i).e,pk n fun i=>(s i).f,pk n fun i=>(s i).g,pk n fun i=>(s i).h⟩
def TB (M:Nat) (s:V8) (a b c d e f g h:Nat):V8 :=
 force (Nat.land (Nat.add s.a a) M) fun a=>force (Nat.land (Nat.add s.b b) M) fun b=>force (Nat.land (Nat.add s.c c) M) fun c=>force (Nat.land (Nat.add s.d d) M) fun d =>
 force (Nat.land (Nat.add s.e e) M) fun e=>force (Nat.land (Nat.add s.f f) M) fun f=>force (Nat.land (Nat.add s.g g) M) fun g=>force (Nat.land (Nat.add s.h h) M) fun h=>⟨a,b,c,d,e,f,g,h⟩
def Ut (O M:Nat) (s:V8):List Nat→Nat→Nat→Nat→Nat→Nat→Nat→Nat→Nat→Nat→Nat→Nat→Nat→Nat→Nat→Nat→Nat→Nat→Nat→Nat→Nat→Nat→Nat→Nat→Nat→V8
 | [],a,b,c,d,e,f,g,h,_,_,_,_,_,_,_,_,_,_,_,_,_,_,_,_=>TB M s a b c d e f g h
 | k::ks,a,b,c,d,e,f,g,h,w0,w1,w2,w3,w4,w5,w6,w7,w8,w9,Uu,Uv,Uw,Ux,P5,Uy =>
  force (Nat.land (Nat.add (Nat.add (Nat.add (Nat.add h (Tw M e)) (vch M e f g)) (Nat.mul O k)) w0) M) fun x =>
  force (Nat.land (Nat.add d x) M) fun e'=>force (Nat.land (Nat.add (Nat.add x (Tv M a)) (Tz a b c)) M) fun a' =>
  force (Nat.land (Nat.add (Nat.add (Nat.add w0 (Tx M w1)) w9) (Ty M P5)) M) fun w' =>
  Ut O M s ks a' a b c e' e f g w1 w2 w3 w4 w5 w6 w7 w8 w9 Uu Uv Uw Ux P5 Uy w'
def TC:List Nat:=[1116352408,1899447441,3049323471,3921009573,961987163,1508970993,2453635748,2870763221,3624381080,310598401,607225278,1426881987,1925078388,2162078206,2614888103,3248222580,3835390401,4022224774,264347078,604807628,770255983,1249150122,1555081692,1996064986,2554220882,2821834349,2952996808,3210313671,3336571891,3584528711,113926993,338241895,666307205,773529912,1294757372,1396182291,1695183700,1986661051,2177026350,2456956037,2730485921,2820302411,3259730800,3345764771,3516065817,3600352804,4094571909,275423344,430227734,506948616,659060556,883997877,958139571,1322822218,1537002063,1747873779,1955562222,2024104815,2227730452,2361852424,2428436474,2756734187,3204031479,3329325298]
theorem NU:kw.map UInt32.toNat=TC:=by decide +kernel
def P6 (O M:Nat) (s:V8) (w:Nat→Nat):V8:=match s with
 | ⟨a,b,c,d,e,f,g,h⟩=>force (w 0) fun w0=>force (w 1) fun w1=>force (w 2) fun w2=>force (w 3) fun w3=>force (w 4) fun w4=>force (w 5) fun w5=>force (w 6) fun w6=>force (w 7) fun w7 =>
  force (w 8) fun w8=>force (w 9) fun w9=>force (w 10) fun Uu=>force (w 11) fun Uv=>force (w 12) fun Uw=>force (w 13) fun Ux=>force (w 14) fun P5=>force (w 15) fun Uy =>
  Ut O M ⟨a,b,c,d,e,f,g,h⟩ TC a b c d e f g h w0 w1 w2 w3 w4 w5 w6 w7 w8 w9 Uu Uv Uw Ux P5 Uy
theorem sT (b:List UInt8) (t m:Nat) (h:t<16+m):∀ d,(sched b (m+d)).getD t 0=(sched b m).getD t 0
 | 0=>rfl
 | d+1=>by
  show (sched b (m+d)++[_]).getD t 0=_
  rw [aA,List.getElem?_append_left (by rw [gG];omega),← aA,sT b t m h d]
def nM (b:List UInt8) (t:Nat):UInt32:=(sched b t).getD t 0
theorem sU (b:List UInt8) {t m:Nat} (h:t<16+m):(sched b m).getD t 0=nM b t:=by
 unfold nM;rcases Nat.le_total m t with h1|h1
 ·obtain ⟨d,rfl⟩:=Nat.le.dest h1;exact (sT b _ m h d).symm
 ·obtain ⟨d,rfl⟩:=Nat.le.dest h1;exact sT b t t zo d
theorem NV (b:List UInt8) (t:Nat):nM b (t+16)=nM b t+T3 (nM b (t+1))+nM b (t+9)+T4 (nM b (t+14)):=by
 rw [← sU b (t:=t+16) (m:=t+1) zo]
 show (sched b t++[Qz (sched b t)]).getD (t+16) 0=_
 rw [aA,List.getElem?_append_right (by rw [gG];omega),gG,show t+16 - (16+t)=0 by omega]
 show Qz (sched b t)=_
 unfold Qz;rw [gG,show 16+t - 16=t by omega,show 16+t - 15=t+1 by omega,show 16+t - 7=t+9 by omega,show 16+t - 2=t+14 by omega,sU b zo,sU b zo,sU b zo,sU b zo]
theorem Ln (b:List UInt8) {t:Nat} (h:t<16):nM b t=wd b t:=by
 rw [← sU b (m:=0) zo]
 show ((List.range 16).map (wd b)).getD t 0=_
 rw [aA,aL,List.getElem?_range h]
 rfl
theorem P7 (n:Nat) (h s:Nat→S8):TB (l7 n) (uX n h) (pk n fun i=>(s i).a) (pk n fun i=>(s i).b) (pk n fun i=>(s i).c) (pk n fun i=>(s i).d) (pk n fun i=>(s i).e) (pk n fun i=>(s i).f) (pk n fun i=>(s i).g) (pk n fun i=>(s i).h)=uX n fun i=>(h i).add (s i):=by
 unfold TB;simp only [force_eq]
 show V8.mk ((pk n (fun i=>(h i).a)+pk n (fun i=>(s i).a)) &&& l7 n) ((pk n (fun i=>(h i).b)+pk n (fun i=>(s i).b)) &&& l7 n) ((pk n (fun i=>(h i).c)+pk n (fun i=>(s i).c)) &&& l7 n) ((pk n (fun i=>(h i).d)+pk n (fun i=>(s i).d)) &&& l7 n) ((pk n (fun i=>(h i).e)+pk n (fun i=>(s i).e)) &&& l7 n) ((pk n (fun i=>(h i).f)+pk n (fun i=>(s i).f)) &&& l7 n) ((pk n (fun i=>(h i).g)+pk n (fun i=>(s i).g)) &&& l7 n) ((pk n (fun i=>(h i).h)+pk n (fun i=>(s i).h)) &&& l7 n)=_
 rw [Dx,Dx,Dx,Dx,Dx,Dx,Dx,Dx]
 rfl
def jX (n:Nat):Nat:=lk n fun _=>1
theorem P8 {t:Nat} (h:t<64):TC.drop t=(kw.getD t 0).toNat::TC.drop (t+1):=by
 have hl:t<TC.length:=by rw [← NU,ab,Ba];exact h
 rw [List.drop_eq_getElem_cons hl]
 congr 1
 simp only [← NU,List.getElem_map];rw [aA,ae (by rw [Ba];exact h)]
 rfl
theorem WZ (n:Nat) (h0:V8) (ks:List Nat) (k:UInt32) (s s':Nat→S8) (w0 w1 w2 w3 w4 w5 w6 w7 w8 w9 Uu Uv Uw Ux P5 Uy w16:Nat→UInt32) (h1:∀ i,s' i=JN (s i) k (w0 i)) (h2:∀ i,w16 i=w0 i+T3 (w1 i)+w9 i+T4 (P5 i)) :
 Ut (jX n) (l7 n) h0 (k.toNat::ks) (pk n fun i=>(s i).a) (pk n fun i=>(s i).b) (pk n fun i=>(s i).c) (pk n fun i=>(s i).d) (pk n fun i=>(s i).e) (pk n fun i=>(s i).f) (pk n fun i=>(s i).g) (pk n fun i=>(s i).h) (pk n w0) (pk n w1) (pk n w2) (pk n w3) (pk n w4) (pk n w5) (pk n w6) (pk n w7) (pk n w8) (pk n w9) (pk n Uu) (pk n Uv) (pk n Uw) (pk n Ux) (pk n P5) (pk n Uy)=Ut (jX n) (l7 n) h0 ks (pk n fun i=>(s' i).a) (pk n fun i=>(s' i).b) (pk n fun i=>(s' i).c) (pk n fun i=>(s' i).d) (pk n fun i=>(s' i).e) (pk n fun i=>(s' i).f) (pk n fun i=>(s' i).g) (pk n fun i=>(s' i).h) (pk n w1) (pk n w2) (pk n w3) (pk n w4) (pk n w5) (pk n w6) (pk n w7) (pk n w8) (pk n w9) (pk n Uu) (pk n Uv) (pk n Uw) (pk n Ux) (pk n P5) (pk n Uy) (pk n w16):=by
 have hk:Nat.mul (jX n) k.toNat=pk n fun _=>k:=(uO n _).symm
 have hX:Nat.land (Nat.add (Nat.add (Nat.add (Nat.add (pk n fun i=>(s i).h) (Tw (l7 n) (pk n fun i=>(s i).e))) (vch (l7 n) (pk n fun i=>(s i).e) (pk n fun i=>(s i).f) (pk n fun i=>(s i).g))) (Nat.mul (jX n) k.toNat)) (pk n w0)) (l7 n)=pk n fun i=>Mb (s i) k (w0 i):=by
  rw [hk,P1,TA];exact ab2 n _ _ _ _ _
 have hE:Nat.land (Nat.add (pk n fun i=>(s i).d) (pk n fun i=>Mb (s i) k (w0 i))) (l7 n)=pk n fun i=>(s' i).e:=by
  refine (Dx n _ _).trans ?_;simp only [h1,JN]
 have hA:Nat.land (Nat.add (Nat.add (pk n fun i=>Mb (s i) k (w0 i)) (Tv (l7 n) (pk n fun i=>(s i).a))) (Tz (pk n fun i=>(s i).a) (pk n fun i=>(s i).b) (pk n fun i=>(s i).c))) (l7 n)=pk n fun i=>(s' i).a:=by
  rw [P0,P4];refine (ab0 n _ _ _).trans ?_;simp only [h1,JN]
 have hW:Nat.land (Nat.add (Nat.add (Nat.add (pk n w0) (Tx (l7 n) (pk n w1))) (pk n w9)) (Ty (l7 n) (pk n P5))) (l7 n)=pk n w16:=by
  rw [P2,P3];refine (ab1 n _ _ _ _).trans ?_;simp only [← h2]
 rw [Ut];simp only [force_eq];rw [hX,hE,hA,hW];simp only [h1,JN]
theorem NW (n:Nat) (hs:Nat→S8) (bs:Nat→List UInt8):∀ r t,t+r=64 →
 Ut (jX n) (l7 n) (uX n hs) (TC.drop t) (pk n fun i=>(lz (hs i) (sched (bs i) 48) t).a) (pk n fun i=>(lz (hs i) (sched (bs i) 48) t).b) (pk n fun i=>(lz (hs i) (sched (bs i) 48) t).c) (pk n fun i=>(lz (hs i) (sched (bs i) 48) t).d) (pk n fun i=>(lz (hs i) (sched (bs i) 48) t).e) (pk n fun i=>(lz (hs i) (sched (bs i) 48) t).f) (pk n fun i=>(lz (hs i) (sched (bs i) 48) t).g) (pk n fun i=>(lz (hs i) (sched (bs i) 48) t).h)
  (pk n fun i=>nM (bs i) (t+0)) (pk n fun i=>nM (bs i) (t+1)) (pk n fun i=>nM (bs i) (t+2)) (pk n fun i=>nM (bs i) (t+3)) (pk n fun i=>nM (bs i) (t+4)) (pk n fun i=>nM (bs i) (t+5)) (pk n fun i=>nM (bs i) (t+6)) (pk n fun i=>nM (bs i) (t+7)) (pk n fun i=>nM (bs i) (t+8)) (pk n fun i=>nM (bs i) (t+9)) (pk n fun i=>nM (bs i) (t+10)) (pk n fun i=>nM (bs i) (t+11)) (pk n fun i=>nM (bs i) (t+12)) (pk n fun i=>nM (bs i) (t+13)) (pk n fun i=>nM (bs i) (t+14)) (pk n fun i=>nM (bs i) (t+15))
 = uX n fun i=>jl (hs i) (bs i)
 | 0,t,h=>by
  obtain rfl:t=64:=by omega
  have h0:TC.drop 64=[]:=by decide
  rw [h0];exact P7 n hs fun i=>lz (hs i) (sched (bs i) 48) 64
 | r+1,t,h=>by
  have ih:=NW n hs bs r (t+1) zo;rw [P8 (show t<64 by omega)];refine (WZ n _ _ _ (fun i=>lz (hs i) (sched (bs i) 48) t) (fun i=>lz (hs i) (sched (bs i) 48) (t+1)) (fun i=>nM (bs i) (t+0)) (fun i=>nM (bs i) (t+1)) (fun i=>nM (bs i) (t+2)) (fun i=>nM (bs i) (t+3)) (fun i=>nM (bs i) (t+4)) (fun i=>nM (bs i) (t+5)) (fun i=>nM (bs i) (t+6)) (fun i=>nM (bs i) (t+7)) (fun i=>nM (bs i) (t+8)) (fun i=>nM (bs i) (t+9)) (fun i=>nM (bs i) (t+10)) (fun i=>nM (bs i) (t+11)) (fun i=>nM (bs i) (t+12)) (fun i=>nM (bs i) (t+13)) (fun i=>nM (bs i) (t+14)) (fun i=>nM (bs i) (t+15)) (fun i=>nM (bs i) (t+16)) ?_ ?_).trans ih
  ·intro i
   show JN _ _ _=_
   rw [sU (bs i) (show t<16+48 by omega)]
   rfl
  ·intro i;exact NV (bs i) t
theorem P9 (n:Nat) (hs:Nat→S8) (bs:Nat→List UInt8) (w:Nat→Nat) (h:∀ j,j<16→w j=pk n fun i=>wd (bs i) j):P6 (jX n) (l7 n) (uX n hs) w=uX n fun i=>jl (hs i) (bs i):=by
 have h2:∀ j,j<16→w j=pk n fun i=>nM (bs i) j:=fun j hj=>by rw [h j hj];congr 1;funext i;rw [Ln _ hj]
 unfold P6 uX;simp only [force_eq];rw [h2 0 zo,h2 1 zo,h2 2 zo,h2 3 zo,h2 4 zo,h2 5 zo,h2 6 zo,h2 7 zo,h2 8 zo,h2 9 zo,h2 10 zo,h2 11 zo,h2 12 zo,h2 13 zo,h2 14 zo,h2 15 zo];exact NW n hs bs 64 0 rfl
def fb (h:S8) (l:List UInt8):Nat→S8
 | 0=>h
 | c+1=>jl (fb h l c) ((l.drop (64*c)).take 64)
theorem Qa (h:S8) (l:List UInt8) (c:Nat):fb h l (c+1)=jl (fb h l c) ((l.drop (64*c)).take 64):=rfl
theorem Jr (h:S8) (l:List UInt8):∀ c,64*c≤l.length→iY h l=iY (fb h l c) (l.drop (64*c))
 | 0,_=>by rw [Nat.mul_zero,List.drop_zero];rfl
 | c+1,hc=>by
  rw [Jr h l c zo,oS (by rw [aP];omega),List.drop_drop,show 64*c+64=64*(c+1) by omega]
  rfl
theorem TD {h:S8} {l:List UInt8} {k:Nat} (hl:l.length=64*k):iY h l=fb h l k:=by
 rw [Jr h l k zo,List.drop_of_length_le zo,vv (by decide)]
theorem NX (l:List UInt8) (c j:Nat) (hj:j<16):wd ((l.drop (64*c)).take 64) j=wd l (16*c+j):=by
 have h:∀ x,x<64→((l.drop (64*c)).take 64).getD x 0=l.getD (64*c+x) 0:=fun x hx=>by
  rw [aA,List.getElem?_take_of_lt hx,List.getElem?_drop,← aA]
 unfold wd;rw [h _ zo,h _ zo,h _ zo,h _ zo,show 4*(16*c+j)=64*c+4*j by omega]
 rfl
def W0 (O M:Nat) (W:Nat→Nat) (s:V8):Nat→V8
 | 0=>s
 | c+1=>P6 O M (W0 O M W s c) fun j=>W (16*c+j)
theorem NY (O M:Nat) (W:Nat→Nat) (s:V8) (c:Nat):W0 O M W s (c+1)=P6 O M (W0 O M W s c) fun j=>W (16*c+j):=rfl
theorem NZ (n:Nat) (hs:Nat→S8) (ms:Nat→List UInt8) (W:Nat→Nat) (k:Nat) (h:∀ t,t<16*k→W t=pk n fun i=>wd (ms i) t):∀ c,c≤k→W0 (jX n) (l7 n) W (uX n hs) c=uX n fun i=>fb (hs i) (ms i) c
 | 0,_=>rfl
 | c+1,hc=>by
  rw [NY,NZ n hs ms W k h c zo,P9 n _ (fun i=>((ms i).drop (64*c)).take 64)]
  ·simp only [Qa]
  ·intro j hj;rw [h _ zo];exact kM fun i=>by rw [NX _ _ _ hj]
theorem uP {b c x:Nat} (h:b=c+1):(1+b*x)*c+1=(x*c+1)*b:=by
 rw [Nat.add_mul,Nat.add_mul,Nat.one_mul,Nat.one_mul,Nat.mul_assoc b,Nat.mul_comm b]
 generalize x*c*b=y
 omega
theorem W1 (n:Nat):jX n=(2 ^ (64*n) - 1) / 18446744073709551615:=by
 have key:∀ n,jX n*18446744073709551615+1=2 ^ (64*n):=by
  intro n
  induction n with
  | zero=>show 0*_+1=1;rw [Nat.zero_mul]
  | succ n ih =>
   have h:jX (n+1)=1+18446744073709551616*jX n:=hF n _;rw [h,Nat.mul_add 64,Nat.pow_add,← ih,show (2:Nat) ^ (64*1)=18446744073709551616 from rfl];exact uP rfl
 rw [← key n,Nat.add_sub_cancel,Nat.mul_div_cancel _ (by decide)]
def vh (O:Nat):V8:=⟨Nat.mul O 1779033703,Nat.mul O 3144134277,Nat.mul O 1013904242,Nat.mul O 2773480762,Nat.mul O 1359893119,Nat.mul O 2600822924,Nat.mul O 528734635,Nat.mul O 1541459225⟩
theorem W2 (n:Nat):vh (jX n)=uX n fun _=>uV:=by
 have h:∀ k:UInt32,Nat.mul (jX n) k.toNat=pk n fun _=>k:=fun k=>(uO n k).symm
 show V8.mk (Nat.mul (jX n) uV.a.toNat) (Nat.mul (jX n) uV.b.toNat) (Nat.mul (jX n) uV.c.toNat) (Nat.mul (jX n) uV.d.toNat) (Nat.mul (jX n) uV.e.toNat) (Nat.mul (jX n) uV.f.toNat) (Nat.mul (jX n) uV.g.toNat) (Nat.mul (jX n) uV.h.toNat)=_
 rw [h,h,h,h,h,h,h,h]
 rfl
def Ij (n k:Nat) (W:Nat→Nat→Nat→Nat):V8:=force (Nat.div (Nat.sub (Nat.pow 2 (Nat.mul 64 n)) 1) 18446744073709551615) fun O=>force (Nat.mul O 4294967295) fun M=>W0 O M (W O M) (vh O) k
theorem uQ (n k:Nat) (W:Nat→Nat→Nat→Nat) (ms:Nat→List UInt8) (h:∀ t,t<16*k→W (jX n) (l7 n) t=pk n fun i=>wd (ms i) t):Ij n k W=uX n fun i=>fb uV (ms i) k:=by
 unfold Ij;simp only [force_eq];have h1:Nat.div (Nat.sub (Nat.pow 2 (Nat.mul 64 n)) 1) 18446744073709551615=jX n:=(W1 n).symm;have h2:Nat.mul (jX n) 4294967295=l7 n:=(Ts n).symm;rw [h1,h2,W2];exact NZ n _ ms _ k h k (aS k)
theorem mx (X:List UInt8) (j:Nat) (hj:j<4):∀ (us:List UInt32) (t:Nat),t<us.length→(us.flatMap il++X).getD (4*t+j) 0=(il (us.getD t 0)).getD j 0
 | u::us,0,_=>by
  rw [aT,aM,aA,List.getElem?_append_left (by show 4*0+j<4;omega),← aA,Nat.mul_zero,aC]
  rfl
 | u::us,t+1,h=>by
  rw [aT,aM,aA,List.getElem?_append_right (by show 4≤_;omega),← aA,show 4*(t+1)+j - (il u).length=4*t+j by show 4*(t+1)+j - 4=_;omega,
   mx X j hj us t (by rw [aN] at h;omega)]
  rfl
theorem rm:∀ us:List UInt32,(us.flatMap il).length=4*us.length
 | []=>rfl
 | u::us=>by rw [aT,aa,rm us,aN];show 4+_=_;omega
theorem rn (X:List UInt8) (us:List UInt32) (j:Nat):(us.flatMap il++X).getD (4*us.length+j) 0=X.getD j 0:=by
 rw [aA,List.getElem?_append_right (by rw [rm];omega),rm,Nat.add_sub_cancel_left,← aA]
theorem W3 (u:UInt32):(il u).getD 0 0=(u >>> UInt32.ofNat (Int.toNat 24)).toUInt8:=rfl
theorem W4 (u:UInt32):(il u).getD 1 0=(u >>> UInt32.ofNat (Int.toNat 16)).toUInt8:=rfl
theorem W5 (u:UInt32):(il u).getD 2 0=(u >>> UInt32.ofNat (Int.toNat 8)).toUInt8:=rfl
theorem W6 (u:UInt32):(il u).getD 3 0=u.toUInt8:=rfl
def Qb (a b c:UInt8):UInt32:=((a.toUInt32 <<< UInt32.ofNat (Int.toNat 16)) ||| (b.toUInt32 <<< UInt32.ofNat (Int.toNat 8))) ||| c.toUInt32
theorem Ik {a b k:Nat} (h:b<2 ^ k):a <<< k ||| b=a*2 ^ k+b:=by rw [← Nat.shiftLeft_add_eq_or_of_lt h,Nat.shiftLeft_eq]
theorem Js (a b c:UInt8):(Qb a b c).toNat=a.toNat*65536+b.toNat*256+c.toNat:=by
 have ha:=a.toNat_lt;have hb:=b.toNat_lt;have hc:=c.toNat_lt
 have h1:(a.toUInt32 <<< UInt32.ofNat (Int.toNat 16)).toNat=a.toNat <<< 16:=by
  show (a.toNat <<< 16) % 2 ^ 32=_
  rw [Nat.mod_eq_of_lt (by rw [Nat.shiftLeft_eq];omega)]
 have h2:(b.toUInt32 <<< UInt32.ofNat (Int.toNat 8)).toNat=b.toNat <<< 8:=by
  show (b.toNat <<< 8) % 2 ^ 32=_
  rw [Nat.mod_eq_of_lt (by rw [Nat.shiftLeft_eq];omega)]
 unfold Qb;rw [UInt32.toNat_or,UInt32.toNat_or,h1,h2,Nat.or_assoc,show c.toUInt32.toNat=c.toNat from rfl,Ik (by omega:c.toNat<2 ^ 8),Ik zo]
 omega
theorem Dy (b0 a b c:UInt8):(((b0.toUInt32 <<< UInt32.ofNat (Int.toNat 24)) ||| (a.toUInt32 <<< UInt32.ofNat (Int.toNat 16))) ||| (b.toUInt32 <<< UInt32.ofNat (Int.toNat 8))) ||| c.toUInt32=(b0.toUInt32 <<< UInt32.ofNat 24) ||| Qb a b c:=by
 unfold Qb;rw [UInt32.or_assoc,UInt32.or_assoc,UInt32.or_assoc]
 rfl
theorem W7 (u:UInt32):Qb (u >>> UInt32.ofNat (Int.toNat 24)).toUInt8 (u >>> UInt32.ofNat (Int.toNat 16)).toUInt8 (u >>> UInt32.ofNat (Int.toNat 8)).toUInt8=u >>> UInt32.ofNat 8:=by
 apply UInt32.toNat_inj.1;rw [Js]
 show ((u.toNat >>> 24) % 256)*65536+((u.toNat >>> 16) % 256)*256+(u.toNat >>> 8) % 256=u.toNat >>> 8
 have:=u.toNat_lt;rw [Nat.shiftRight_eq_div_pow,Nat.shiftRight_eq_div_pow,Nat.shiftRight_eq_div_pow]
 omega
theorem Rg (u:UInt32):u.toUInt8.toUInt32 <<< UInt32.ofNat 24=u <<< UInt32.ofNat 24:=by
 apply UInt32.toNat_inj.1
 show ((u.toNat % 256) <<< 24) % 2 ^ 32=(u.toNat <<< 24) % 2 ^ 32
 rw [Nat.shiftLeft_eq,Nat.shiftLeft_eq]
 omega
theorem TE (τ:UInt8) (us:List UInt32) (X:List UInt8) (h:0<us.length):wd (τ::(us.flatMap il++X)) 0=(τ.toUInt32 <<< UInt32.ofNat 24) ||| (us.getD 0 0 >>> UInt32.ofNat 8):=by
 rw [← W7,← Dy,← W3,← W4,← W5,← mx X 0 zo us 0 h,← mx X 1 zo us 0 h,← mx X 2 zo us 0 h]
 rfl
theorem W8 (τ:UInt8) (us:List UInt32) (X:List UInt8) (t:Nat) (h:t+1<us.length):wd (τ::(us.flatMap il++X)) (t+1)=(us.getD t 0 <<< UInt32.ofNat 24) ||| (us.getD (t+1) 0 >>> UInt32.ofNat 8):=by
 rw [← W7,← Rg,← Dy,← W3,← W4,← W5,← W6,← mx X 0 zo us (t+1) h,← mx X 1 zo us (t+1) h,← mx X 2 zo us (t+1) h,← mx X 3 zo us t zo]
 rfl
theorem TF (τ:UInt8) (us:List UInt32) (X:List UInt8) (t:Nat) (h:us.length=t+1):wd (τ::(us.flatMap il++X)) (t+1)=(us.getD t 0 <<< UInt32.ofNat 24) ||| Qb (X.getD 0 0) (X.getD 1 0) (X.getD 2 0):=by
 rw [← Rg,← Dy,← W6,← mx X 3 zo us t zo,← rn X us 0,← rn X us 1,← rn X us 2,h]
 rfl
theorem Qc (τ:UInt8) (us:List UInt32) (X:List UInt8) (j:Nat):wd (τ::(us.flatMap il++X)) (us.length+(j+1))=wd (X.drop 3) j:=by
 have h:∀ x,(τ::(us.flatMap il++X)).getD (4*(us.length+(j+1))+x) 0=(X.drop 3).getD (4*j+x) 0:=fun x=>by
  rw [show 4*(us.length+(j+1))+x=(4*us.length+(3+(4*j+x)))+1 by omega,aA,List.getElem?_cons_succ,← aA,rn];rw [aA,aA,List.getElem?_drop]
 unfold wd;have h0:=h 0;rw [Nat.add_zero,Nat.add_zero] at h0
 rw [h0,h 1,h 2,h 3]
 rfl
def TG (O M A T:Nat) (u c:Nat→Nat) (t:Nat):Nat:=match t with
 | 0=>Nat.lor (Nat.mul O A) (Nat.land (Nat.shiftRight (u 0) 8) M)
 | t+1=>cond (Nat.blt (t+1) T) (Nat.land (Nat.lor (Nat.shiftLeft (u t) 24) (Nat.shiftRight (u (t+1)) 8)) M) (cond (Nat.beq (t+1) T) (Nat.lor (Nat.land (Nat.shiftLeft (u t) 24) M) (c 0)) (c (Nat.sub (t+1) T)))
theorem N0 (O M A T:Nat) (u c:Nat→Nat):TG O M A T u c 0=(Nat.mul O A ||| ((u 0 >>> 8) &&& M)):=rfl
theorem N1 (O M A T:Nat) (u c:Nat→Nat) (t:Nat):TG O M A T u c (t+1)=cond (Nat.blt (t+1) T) (((u t <<< 24) ||| (u (t+1) >>> 8)) &&& M) (cond (Nat.beq (t+1) T) (((u t <<< 24) &&& M) ||| c 0) (c (t+1 - T))):=rfl
theorem Dz (n:Nat) (τ:UInt8) (A T J:Nat) (us:Nat→List UInt32) (X:Nat→List UInt8) (u c:Nat→Nat) (hA:A=(τ.toUInt32 <<< UInt32.ofNat 24).toNat) (hT:0<T) (hl:∀ i,(us i).length=T) (hu:∀ j,j<T→u j=pk n fun i=>(us i).getD j 0)
 (h0:c 0=pk n fun i=>Qb ((X i).getD 0 0) ((X i).getD 1 0) ((X i).getD 2 0)) (hc:∀ j,j<J→c (j+1)=pk n fun i=>wd ((X i).drop 3) j):∀ t,t<T+1+J→TG (jX n) (l7 n) A T u c t=pk n fun i=>wd (τ::((us i).flatMap il++X i)) t
 | 0,_=>by
  have h1:Nat.mul (jX n) A=pk n fun _=>τ.toUInt32 <<< UInt32.ofNat 24:=by rw [hA];exact (uO n _).symm
  rw [N0];rw [h1,hu 0 hT,oE 8 zo,FZ];exact kM fun i=>by rw [TE _ _ _ (by rw [hl];exact hT)]
 | t+1,ht=>by
  rw [N1]
  by_cases h1:t+1<T
  ·rw [show Nat.blt (t+1) T=true by rw [Nat.blt_eq];exact h1];rw [cond_true,hu t zo,hu (t+1) h1,Nat.and_or_distrib_right,oE 8 zo,z4 n _ 24 zo,FZ];exact kM fun i=>by rw [W8 _ _ _ _ (by rw [hl];exact h1)]
  ·rw [show Nat.blt (t+1) T=false by rw [← Bool.not_eq_true,Nat.blt_eq];exact h1,cond_false]
   by_cases h2:t+1=T
   ·rw [show Nat.beq (t+1) T=true by rw [h2];exact Nat.beq_refl T];rw [cond_true,hu t zo,z4 n _ 24 zo,h0,FZ];exact kM fun i=>by rw [TF _ _ _ _ (by rw [hl];exact h2.symm)]
   ·rw [show Nat.beq (t+1) T=false by rw [← Bool.not_eq_true];exact fun h=>h2 (Nat.eq_of_beq_eq_true h)];rw [cond_false];obtain ⟨j,hj⟩:∃ j,t+1=T+(j+1):=⟨t - T,by omega⟩
    rw [hj,Nat.add_sub_cancel_left,hc j zo];exact kM fun i=>by rw [← hl i,Qc]
end Go.Bs
namespace Go.Proofs
open Go.Bs
def sS (τ:UInt8) (us:List UInt32) (X:List UInt8) (k:Nat):S8:=fb uV (τ::(us.flatMap il++(X++mM (1+(4*us.length+X.length))))) k
theorem F0 {τ:UInt8} {us:List UInt32} {X:List UInt8} {k:Nat} (h:1+(4*us.length+(X.length+(9+zs (1+(4*us.length+X.length)))))=64*k):sh (τ::(us.flatMap il++X))=gY (sS τ us X k):=by
 unfold sh sS;have e:(τ::(us.flatMap il++X)).length=1+(4*us.length+X.length):=by rw [aN,aa,rm];omega
 rw [e,TD (k:=k) (by rw [aa,e,D9];omega),List.cons_append,aM]
theorem fV (s:S8):s.list.length=8:=rfl
def kN (k:Nat):Nat:=k % 2*8+k / 2 % 2*4+k / 4 % 2*2+k / 8
def uY (s:Nat):S8:=sS 20 [] (be (s+1) 4) 1
def Ou (i:Nat):S8:=sS 10 (uY (i % 3)).list (be (kN (i % 48 / 3)) 4++[UInt8.ofNat (i / 48 / 2),UInt8.ofNat (i / 48 % 2)]) 1
def uR (i:Nat):S8:=sS 11 (Ou i).list [] 1
def Ov (r:Nat):S8:=sS 12 ((List.range 64).flatMap fun p=>(uR (p*48+r)).list) [] 33
def lN (S:Nat→S8) (m r:Nat):S8:=sS 14 ((S r).list++(S (m+r)).list) [] 2
def TH:Nat→S8:=lN Ov 24
def TI:Nat→S8:=lN TH 12
def TJ:Nat→S8:=lN TI 6
def W9:Nat→S8:=lN TJ 3
theorem qN (s:S8):gY s=s.list.flatMap il:=rfl
theorem F1 {s key p:Nat} (hs:s<3) (hk:key<16) (hp:p<64):fH (gY (uY s)) key (p / 2) (p % 2)=gY (Ou (p*48+(3*kN key+s))):=by
 have hr:∀ k,k<16→kN k<16∧kN (kN k)=k:=by decide
 obtain ⟨h1,h2⟩:=hr key hk;have e1:(p*48+(3*kN key+s)) % 3=s:=by omega
 have e2:(p*48+(3*kN key+s)) % 48 / 3=kN key:=by omega
 have e3:(p*48+(3*kN key+s)) / 48=p:=by omega
 unfold Ou;rw [e1,e2,e3,h2,← F0]
 ·unfold fH ek;rw [qN];simp only [List.flatten_cons,List.flatten_nil,aK]
 ·rw [fV,aa,cY,aN,aN,List.length_nil]
  decide
theorem Il {s key p:Nat} (hs:s<3) (hk:key<16) (hp:p<64):kx (gY (uY s)) key (p / 2) (p % 2)=gY (uR (p*48+(3*kN key+s))):=by
 unfold kx uR;rw [F1 hs hk hp,← F0]
 ·unfold ek;rw [qN];simp only [List.flatten_cons,List.flatten_nil,aK]
 ·rw [fV,List.length_nil]
  decide
theorem qO {α β:Type} (f:α→List β) (k:Nat) (h:∀ a,(f a).length=k):∀ l:List α,(l.flatMap f).length=k*l.length
 | []=>rfl
 | a::l=>by rw [aT,aa,h,qO f k h l,aN,Nat.mul_add,Nat.mul_one,Nat.add_comm]
theorem Lo:1+(4*(8*64)+(0+(9+zs (1+(4*(8*64)+0)))))=64*33:=by decide
theorem N3 (seed:List UInt8) (key p:Nat):jC (fun _ _=>false) seed key p=kx seed key (p / 2) (p % 2):=by
 unfold jC;exact aB Bool.false_ne_true
theorem Im {s key:Nat} (hs:s<3) (hk:key<16):∀ l:List Nat,(∀ p∈l,p<64)→l.flatMap (jC (fun _ _=>false) (gY (uY s)) key)=l.flatMap fun p=>(uR (p*48+(3*kN key+s))).list.flatMap il:=by
 intro l
 induction l with
 | nil=>intro _;rw [List.flatMap_nil,List.flatMap_nil]
 | cons p l ih =>
  intro hl;rw [aT,aT,ih fun q hq=>hl q (aU _ hq),N3,Il hs hk (hl p List.mem_cons_self),qN (uR _)]
theorem Lq {s key:Nat} (hs:s<3) (hk:key<16):(nz (fun _ _=>false) (gY (uY s)) key).flatten=((List.range 64).flatMap fun p=>(uR (p*48+(3*kN key+s))).list).flatMap il:=by
 unfold nz;rw [List.flatMap_assoc,← List.flatMap_def];exact Im hs hk _ fun p hp=>List.mem_range.1 hp
theorem Lr {s key:Nat} (hs:s<3) (hk:key<16):iA (gY (uY s)) key=gY (Ov (3*kN key+s)):=by
 unfold iA Ov;have h:=Lq hs hk;have hl:((List.range 64).flatMap fun p=>(uR (p*48+(3*kN key+s))).list).length=8*64:=by rw [qO _ 8 (fun _=>rfl),List.length_range]
 generalize ((List.range 64).flatMap fun p=>(uR (p*48+(3*kN key+s))).list)=us at *
 rw [← F0]
 ·unfold ek;rw [h,aK]
 ·rw [hl,List.length_nil];exact Lo
theorem rp (S:Nat→S8) (m r:Nat):ek 14 [gY (S r),gY (S (m+r))]=gY (lN S m r):=by
 unfold lN;rw [← F0]
 ·unfold ek;rw [qN,qN];simp only [List.flatten_cons,List.flatten_nil,aK,aW]
 ·rw [aa,fV,fV,List.length_nil]
  decide
theorem N4 (o:Nat→List UInt8) (n:List UInt8→List UInt8→List UInt8) (hn:∀ a b,n a b=ek 14 [a,b]):(pR ((List.range 16).map o) 4).getD 0 [] =
 n (n (n (n (o 0) (o 1)) (n (o 2) (o 3))) (n (n (o 4) (o 5)) (n (o 6) (o 7)))) (n (n (n (o 8) (o 9)) (n (o 10) (o 11))) (n (n (o 12) (o 13)) (n (o 14) (o 15)))):=by
 have h2:∀ a b r,iS (a::b::r)=n a b::iS r:=fun a b r=>by rw [hn];rfl
 have h0:iS []=[]:=rfl;have e:(List.range 16).map o=[o 0,o 1,o 2,o 3,o 4,o 5,o 6,o 7,o 8,o 9,o 10,o 11,o 12,o 13,o 14,o 15]:=rfl;rw [e];simp only [pR,h2,h0]
 rfl
theorem F2 {s:Nat} (hs:s<3):kP (gY (uY s))=gY (W9 s):=by
 have ho:∀ k k',k<16→kN k=k'→iA (gY (uY s)) k=gY (Ov (3*k'+s)):=fun k k' h e=>by rw [Lr hs h,e]
 unfold kP eX;rw [N4 _ (fun a b=>ek 14 [a,b]) (fun _ _=>rfl)]
 rw [ho 0 0 (by decide) rfl,ho 1 8 (by decide) rfl,ho 2 4 (by decide) rfl,ho 3 12 (by decide) rfl,ho 4 2 (by decide) rfl,ho 5 10 (by decide) rfl,ho 6 6 (by decide) rfl,ho 7 14 (by decide) rfl,
  ho 8 1 (by decide) rfl,ho 9 9 (by decide) rfl,ho 10 5 (by decide) rfl,ho 11 13 (by decide) rfl,ho 12 3 (by decide) rfl,ho 13 11 (by decide) rfl,ho 14 7 (by decide) rfl,ho 15 15 (by decide) rfl]
 have n3:∀ r r',r'=24+r→ek 14 [gY (Ov r),gY (Ov r')]=gY (TH r):=fun r r' h=>by rw [h];exact rp Ov 24 r
 have n4:∀ r r',r'=12+r→ek 14 [gY (TH r),gY (TH r')]=gY (TI r):=fun r r' h=>by rw [h];exact rp TH 12 r
 have n5:∀ r r',r'=6+r→ek 14 [gY (TI r),gY (TI r')]=gY (TJ r):=fun r r' h=>by rw [h];exact rp TI 6 r
 have n6:∀ r r',r'=3+r→ek 14 [gY (TJ r),gY (TJ r')]=gY (W9 r):=fun r r' h=>by rw [h];exact rp TJ 3 r
 rw [n3 (3*0+s) _ zo,n3 (3*4+s) _ zo,n3 (3*2+s) _ zo,n3 (3*6+s) _ zo,n3 (3*1+s) _ zo,n3 (3*5+s) _ zo,n3 (3*3+s) _ zo,n3 (3*7+s) _ zo,
  n4 (3*0+s) _ zo,n4 (3*2+s) _ zo,n4 (3*1+s) _ zo,n4 (3*3+s) _ zo,n5 (3*0+s) _ zo,n5 (3*1+s) _ zo,n6 (3*0+s) _ zo,Nat.mul_zero,aC]
theorem B5 (s:Nat):ek 20 [be (s+1) 4]=gY (uY s):=by
 unfold uY;rw [← F0]
 ·unfold ek;simp only [List.flatten_cons,List.flatten_nil,aK,List.flatMap_nil,List.nil_append]
 ·rw [cY,List.length_nil]
  decide
def uS (a b c d e f g h:Nat):Nat→Nat
 | 0=>a
 | 1=>b
 | 2=>c
 | 3=>d
 | 4=>e
 | 5=>f
 | 6=>g
 | _=>h
theorem qP (n:Nat) (S:Nat→S8):∀ j,j<8→uS (pk n fun i=>(S i).a) (pk n fun i=>(S i).b) (pk n fun i=>(S i).c) (pk n fun i=>(S i).d) (pk n fun i=>(S i).e) (pk n fun i=>(S i).f) (pk n fun i=>(S i).g) (pk n fun i=>(S i).h) j=pk n fun i=>(S i).list.getD j 0
 | 0,_=>rfl
 | 1,_=>rfl
 | 2,_=>rfl
 | 3,_=>rfl
 | 4,_=>rfl
 | 5,_=>rfl
 | 6,_=>rfl
 | 7,_=>rfl
 | j+8,h=>absurd h zo
def TK (O:Nat) (cs:List Nat) (j:Nat):Nat:=Nat.mul O (cs.getD j 0)
theorem sV (n:Nat) (cs:List Nat) (j:Nat) (x:UInt32) (h:x.toNat=cs.getD j 0):TK (jX n) cs j=pk n fun _=>x:=by
 unfold TK;rw [← h];exact (uO n x).symm
theorem ab4 (m k:Nat):uL m k=(2 ^ (64*m*k) - 1) / (2 ^ (64*m) - 1)∨m=0:=by
 rcases Nat.eq_zero_or_pos m with h0|h0
 ·exact .inr h0
 left
 have hb:2 ^ (64*m)=(2 ^ (64*m) - 1)+1:=by have:=Nat.two_pow_pos (64*m);omega
 have key:∀ k,uL m k*(2 ^ (64*m) - 1)+1=2 ^ (64*m*k):=by
  intro k
  induction k with
  | zero=>show 0*_+1=2 ^ (64*m*0);rw [Nat.zero_mul,Nat.mul_zero,Nat.pow_zero]
  | succ k ih =>
   show (1+2 ^ (64*m)*uL m k)*_+1=_
   rw [uP hb,ih,Nat.mul_add,Nat.mul_one,Nat.pow_add]
 have hp:0<2 ^ (64*m) - 1:=by
  have:2 ^ 1≤2 ^ (64*m):=Nat.pow_le_pow_right (by decide) zo
  omega
 rw [← key k,Nat.add_sub_cancel,Nat.mul_div_cancel _ hp]
def XS (f:Nat→Nat):Nat→Nat→Nat→Nat
 | 0,_,acc=>acc
 | n+1,i,acc=>force (Nat.add acc (Nat.shiftLeft (f i) (Nat.mul 64 i))) fun acc=>force (Nat.succ i) fun i=>XS f n i acc
theorem N5 (f:Nat→Nat):∀ n i acc,XS f n i acc=acc+2 ^ (64*i)*lk n fun j=>f (i+j)
 | 0,i,acc=>by show acc=acc+_*0;rw [Nat.mul_zero,Nat.add_zero]
 | n+1,i,acc=>by
  show force (Nat.add acc (Nat.shiftLeft (f i) (Nat.mul 64 i))) _=_
  rw [force_eq,force_eq,N5 f n]
  show acc+(f i <<< (64*i))+_=acc+2 ^ (64*i)*(f (i+0)+2 ^ 64*lk n fun j=>f (i+(j+1)))
  rw [Nat.shiftLeft_eq,Nat.mul_add,Nat.add_zero,← Nat.mul_assoc,← Nat.pow_add,Nat.mul_comm (f i),Nat.add_assoc,show Nat.succ i=i+1 from rfl,show 64*(i+1)=64*i+64 by omega];have:(fun j=>f (i+1+j))=fun j=>f (i+(j+1)):=funext fun j=>by rw [show i+1+j=i+(j+1) by omega]
  rw [this]
theorem N6:∀ (n:Nat) (f g:Nat→Nat),(∀ i,i<n→f i=g i)→lk n f=lk n g
 | 0,_,_,_=>rfl
 | n+1,f,g,h=>by
  rw [hF,hF,h 0 zo,N6 n _ _ fun i hi=>h (i+1) zo]
theorem Jt:∀ n:Nat,lk n (fun _=>0)=0
 | 0=>rfl
 | n+1=>by rw [hF,Jt n]
theorem TL (m k:Nat) (hm:0<m) (f:Nat→UInt32):pk (k*m) (fun i=>f (i % m))=pk m f*uL m k:=NT m (fun i=>(f i).toNat) hm k
abbrev m0 (s:Nat):List UInt8:=20::(([]:List UInt32).flatMap il++(be (s+1) 4++mM (1+(4*([]:List UInt32).length+(be (s+1) 4).length))))
def V0:V8:=Ij 3 1 fun _ _ t=>pk 3 fun s=>wd (m0 s) t
theorem Xa:V0=uX 3 uY:=uQ 3 1 _ m0 fun _ _=>rfl
def k9 (i:Nat):Nat:=Nat.add (Nat.add (Nat.mul (kN (Nat.div (Nat.mod i 48) 3)) 16777216) (Nat.mul (Nat.div (Nat.div i 48) 2) 65536)) (Nat.add (Nat.mul (Nat.mod (Nat.div i 48) 2) 256) 128)
def c1 (O:Nat):Nat→Nat
 | 0=>0
 | 1=>XS k9 3072 0 0
 | j=>TK O [0,0,0,0,0,0,0,312] j
def TM (n:Nat):Nat:=Nat.pow 2 (Nat.mul 64 n)
theorem TN (n:Nat):2 ^ (64*n)=TM n:=rfl
def Xb (m k:Nat):Nat:=Nat.div (Nat.sub (TM (Nat.mul m k)) 1) (Nat.sub (TM m) 1)
theorem Qd (m k:Nat) (h:0<m):Xb m k=uL m k:=by
 rcases ab4 m k with h1|h1
 ·rw [h1,Nat.mul_assoc];rfl
 ·omega
def V1c (a b c d e f g h:Nat):V8:=force (Xb 3 1024) fun r=>Ij 3072 1 fun O M=>TG O M 167772160 8 (fun j=>Nat.mul (uS a b c d e f g h j) r) (c1 O)
def V1 (s:V8):V8:=match s with
 | ⟨a,b,c,d,e,f,g,h⟩=>V1c a b c d e f g h
abbrev X1 (i:Nat):List UInt8:=be (kN (i % 48 / 3)) 4++[UInt8.ofNat (i / 48 / 2),UInt8.ofNat (i / 48 % 2)]
theorem N7 (b0 a b c:UInt8) (l:List UInt8):(wd (b0::a::b::c::l) 0).toNat=b0.toNat*16777216+(a.toNat*65536+b.toNat*256+c.toNat):=by
 show ((((b0.toUInt32 <<< UInt32.ofNat (Int.toNat 24)) ||| (a.toUInt32 <<< UInt32.ofNat (Int.toNat 16))) ||| (b.toUInt32 <<< UInt32.ofNat (Int.toNat 8))) ||| c.toUInt32).toNat=_
 rw [Dy,UInt32.toNat_or,Js];have hb:=b0.toNat_lt;have h1:=a.toNat_lt;have h2:=b.toNat_lt;have h3:=c.toNat_lt
 have e:(b0.toUInt32 <<< UInt32.ofNat 24).toNat=b0.toNat <<< 24:=by
  show (b0.toNat <<< 24) % 2 ^ 32=_
  rw [Nat.mod_eq_of_lt (by rw [Nat.shiftLeft_eq];omega)]
 rw [e,Ik zo]
theorem N8 (a b c d:UInt8) (l:List UInt8) (j:Nat):wd (a::b::c::d::l) (j+1)=wd l j:=by
 unfold wd;rw [show 4*(j+1)=4*j+4 by omega]
 rfl
theorem Xc:mM 39=[128,0,0,0,0,0,0,0,0,0,0,0,0,0,0,0,0,0,0,0,0,0,0,1,56]:=by decide
theorem Xd:V1 (uX 3 uY)=uX 3072 Ou:=by
 rw [show V1 (uX 3 uY)=V1c (pk 3 fun i=>(uY i).a) (pk 3 fun i=>(uY i).b) (pk 3 fun i=>(uY i).c) (pk 3 fun i=>(uY i).d) (pk 3 fun i=>(uY i).e) (pk 3 fun i=>(uY i).f) (pk 3 fun i=>(uY i).g) (pk 3 fun i=>(uY i).h) from rfl];unfold V1c;rw [force_eq,Qd 3 1024 zo];refine uQ 3072 1 _ (fun i=>10::((uY (i % 3)).list.flatMap il++(X1 i++mM (1+(4*(uY (i % 3)).list.length+(X1 i).length))))) ?_;refine Dz 3072 10 _ 8 7 (fun i=>(uY (i % 3)).list) (fun i=>X1 i++mM (1+(4*(uY (i % 3)).list.length+(X1 i).length))) _ _ (by decide) zo (fun _=>rfl) ?_ ?_ ?_
 ·intro j hj;rw [qP 3 uY j hj];exact (TL 3 1024 zo fun s=>(uY s).list.getD j 0).symm
 ·show 0=_
  refine (Jt 3072).symm.trans (N6 _ _ _ fun i hi=>?_)
  have hk:kN (i % 48 / 3)<16:=by
   have:∀ k,k<16→kN k<16:=by decide
   exact this _ zo
  have h2:∀ k,k<16→(0:Nat)=(Qb (UInt8.ofNat (k / 256 ^ 3)) (UInt8.ofNat (k / 256 ^ 2)) (UInt8.ofNat (k / 256 ^ 1))).toNat:=by decide
  have hX:∀ (i:Nat) (Y:List UInt8),X1 i++Y=UInt8.ofNat (kN (i % 48 / 3) / 256 ^ 3)::UInt8.ofNat (kN (i % 48 / 3) / 256 ^ 2)::UInt8.ofNat (kN (i % 48 / 3) / 256 ^ 1)::UInt8.ofNat (kN (i % 48 / 3) / 256 ^ 0)::UInt8.ofNat (i / 48 / 2)::UInt8.ofNat (i / 48 % 2)::Y:=fun _ _=>rfl
  have hg:∀ (a b c:UInt8) (Y:List UInt8),(a::b::c::Y).getD 0 0=a∧(a::b::c::Y).getD 1 0=b∧(a::b::c::Y).getD 2 0=c:=fun _ _ _ _=>⟨rfl,rfl,rfl⟩
  show (0:Nat)=(Qb ((X1 i++_).getD 0 0) ((X1 i++_).getD 1 0) ((X1 i++_).getD 2 0)).toNat
  rw [hX,(hg _ _ _ _).1,(hg _ _ _ _).2.1,(hg _ _ _ _).2.2];exact h2 _ hk
 ·intro j hj
  have hX:∀ i,(X1 i++mM (1+(4*(uY (i % 3)).list.length+(X1 i).length))).drop 3=UInt8.ofNat (kN (i % 48 / 3) / 256 ^ 0)::UInt8.ofNat (i / 48 / 2)::UInt8.ofNat (i / 48 % 2)::mM 39:=fun i=>by
   rw [fV]
   rfl
  simp only [hX]
  have hs:∀ (a b c:UInt8) (j:Nat),1≤j→j<7→(wd (a::b::c::mM 39) j).toNat=[0,0,0,0,0,0,0,312].getD (j+1) 0:=by
   intro a b c j h1 h2;obtain ⟨j,rfl⟩:∃ k,j=k+1:=⟨j - 1,by omega⟩
   have hd:∀ j,j<6→(wd [0,0,0,0,0,0,0,0,0,0,0,0,0,0,0,0,0,0,0,0,0,0,1,56] j).toNat=[0,0,0,0,0,0,0,312].getD (j+1+1) 0:=by decide
   rw [Xc,N8];exact hd j zo
  rcases Nat.eq_zero_or_pos j with rfl|h1
  ·show XS k9 3072 0 0=_
   rw [N5,aC,Nat.mul_zero,Nat.pow_zero,Nat.one_mul];refine N6 _ _ _ fun i hi=>?_
   have hk:kN (i % 48 / 3)<16:=by
    have:∀ k,k<16→kN k<16:=by decide
    exact this _ zo
   rw [aC,Xc,N7,Nat.div_one,UInt8.toNat_ofNat_of_lt' (by show _<256;omega),UInt8.toNat_ofNat_of_lt' (by show _<256;omega),UInt8.toNat_ofNat_of_lt' (by show _<256;omega)]
   show kN (i % 48 / 3)*16777216+i / 48 / 2*65536+(i / 48 % 2*256+128)=kN (i % 48 / 3)*16777216+(i / 48 / 2*65536+i / 48 % 2*256+128)
   omega
  ·obtain ⟨j,rfl⟩:∃ k,j=k+1:=⟨j - 1,by omega⟩
   show TK (jX 3072) _ (j+1+1)=_
   rw [sV 3072 _ _ (wd (0::0::0::mM 39) (j+1)) (hs _ _ _ _ h1 hj)];refine kM fun i=>?_
   apply UInt32.toNat_inj.1;rw [hs _ _ _ _ h1 hj,hs _ _ _ _ h1 hj]
def V2 (s:V8):V8:=match s with
 | ⟨a,b,c,d,e,f,g,h⟩=>Ij 3072 1 fun O M=>TG O M 184549376 8 (uS a b c d e f g h) (TK O [8388608,0,0,0,0,0,0,264])
theorem Xe:V2 (uX 3072 Ou)=uX 3072 uR:=by
 refine uQ 3072 1 _ (fun i=>11::((Ou i).list.flatMap il++([]++mM (1+(4*(Ou i).list.length+([]:List UInt8).length))))) ?_;refine Dz 3072 11 _ 8 7 (fun i=>(Ou i).list) (fun i=>[]++mM (1+(4*(Ou i).list.length+([]:List UInt8).length))) _ _ (by decide) zo (fun _=>rfl) (qP 3072 Ou) ?_ ?_
 ·simp only [fV];exact sV 3072 _ 0 _ (by decide)
 ·intro j hj;simp only [fV];have:∀ j,j<7→(wd (([]++mM (1+(4*8+([]:List UInt8).length))).drop 3) j).toNat=[8388608,0,0,0,0,0,0,264].getD (j+1) 0:=by decide
  exact sV 3072 _ (j+1) _ (this j hj)
def t15 (x:Nat):List Nat:=[8388608,0,0,0,0,0,0,0,0,0,0,0,0,0,0,x]
def V3c (a b c d e f g h:Nat):V8:=force (TM 48) fun q=>Ij 48 33 fun O M=>TG O M 201326592 512 (fun t=>Nat.mod (Nat.shiftRight (uS a b c d e f g h (Nat.mod t 8)) (Nat.mul 3072 (Nat.div t 8))) q) (TK O (t15 16392))
def V3 (s:V8):V8:=match s with
 | ⟨a,b,c,d,e,f,g,h⟩=>V3c a b c d e f g h
theorem Rh (F:Nat→S8) (j:Nat) (hj:j<8):∀ (l:List Nat) (p:Nat) (h:p<l.length),(l.flatMap fun q=>(F q).list).getD (8*p+j) 0=(F (l[p]'h)).list.getD j 0
 | x::l,0,_=>by
  rw [aT,aA,List.getElem?_append_left (by rw [fV];omega),← aA,Nat.mul_zero,aC]
  rfl
 | x::l,p+1,h=>by
  rw [aT,aA,List.getElem?_append_right (by rw [fV];omega),← aA,fV,show 8*(p+1)+j - 8=8*p+j by omega,Rh F j hj l p (by rw [aN] at h;omega)]
  rfl
theorem Xf:V3 (uX 3072 uR)=uX 48 Ov:=by
 have hl:∀ r,((List.range 64).flatMap fun p=>(uR (p*48+r)).list).length=512:=fun r=>by rw [qO _ 8 (fun _=>rfl),List.length_range]
 have hg:∀ r t,t<512→((List.range 64).flatMap fun p=>(uR (p*48+r)).list).getD t 0=(uR (48*(t / 8)+r)).list.getD (t % 8) 0:=fun r t ht=>by
  have h:=Rh (fun p=>uR (p*48+r)) (t % 8) zo (List.range 64) (t / 8) (by rw [List.length_range];omega);rw [show 8*(t / 8)+t % 8=t by omega,List.getElem_range,Nat.mul_comm (t / 8)] at h
  exact h
 rw [show V3 (uX 3072 uR)=V3c (pk 3072 fun i=>(uR i).a) (pk 3072 fun i=>(uR i).b) (pk 3072 fun i=>(uR i).c) (pk 3072 fun i=>(uR i).d) (pk 3072 fun i=>(uR i).e) (pk 3072 fun i=>(uR i).f) (pk 3072 fun i=>(uR i).g) (pk 3072 fun i=>(uR i).h) from rfl];unfold V3c;rw [force_eq];have e3:Ov=fun r=>fb uV (12::(((List.range 64).flatMap fun p=>(uR (p*48+r)).list).flatMap il++([]++mM (1+(4*((List.range 64).flatMap fun p=>(uR (p*48+r)).list).length+([]:List UInt8).length))))) 33:=rfl
 rw [e3];simp only [hl]
 generalize hZ:(fun r=>(List.range 64).flatMap fun p=>(uR (p*48+r)).list)=us at *
 have Ho:∀ r,((List.range 64).flatMap fun p=>(uR (p*48+r)).list)=us r:=fun r=>congrFun hZ r
 simp only [Ho] at *
 refine uQ 48 33 _ (fun r=>12::((us r).flatMap il++([]++mM (1+(4*512+([]:List UInt8).length))))) ?_;refine Dz 48 12 _ 512 15 us (fun r=>[]++mM (1+(4*512+([]:List UInt8).length))) _ _ (by decide) zo hl ?_ ?_ ?_
 ·intro t ht
  show ((uS _ _ _ _ _ _ _ _ (t % 8)) >>> (3072*(t / 8))) % TM 48=_
  rw [qP 3072 uR (t % 8) zo];have h:=Tu (48*(t / 8)) 48 (3072 - 48 - 48*(t / 8)) fun i=>(uR i).list.getD (t % 8) 0
  rw [show 48*(t / 8)+(48+(3072 - 48 - 48*(t / 8)))=3072 by omega,show 64*(48*(t / 8))=3072*(t / 8) by omega,TN 48] at h
  rw [← h];exact kM fun r=>(hg r t ht).symm
 ·exact sV 48 _ 0 _ (by decide)
 ·intro j hj;have:∀ j,j<15→(wd (([]++mM (1+(4*512+([]:List UInt8).length))).drop 3) j).toNat=(t15 16392).getD (j+1) 0:=by decide
  exact sV 48 _ (j+1) _ (this j hj)
def vNc (m a b c d e f g h:Nat):V8:=force (TM m) fun q=>Ij m 2 fun O M=>TG O M 234881024 16 (fun t=>cond (Nat.blt t 8) (Nat.mod (uS a b c d e f g h t) q) (Nat.shiftRight (uS a b c d e f g h (Nat.sub t 8)) (Nat.mul 64 m))) (TK O (t15 520))
def vN (m:Nat) (s:V8):V8:=match s with
 | ⟨a,b,c,d,e,f,g,h⟩=>vNc m a b c d e f g h
theorem Ju (S:Nat→S8) (m:Nat):vN m (uX (m+m) S)=uX m (lN S m):=by
 rw [show vN m (uX (m+m) S)=vNc m (pk (m+m) fun i=>(S i).a) (pk (m+m) fun i=>(S i).b) (pk (m+m) fun i=>(S i).c) (pk (m+m) fun i=>(S i).d) (pk (m+m) fun i=>(S i).e) (pk (m+m) fun i=>(S i).f) (pk (m+m) fun i=>(S i).g) (pk (m+m) fun i=>(S i).h) from rfl];unfold vNc;rw [force_eq];refine uQ m 2 _ (fun r=>14::(((S r).list++(S (m+r)).list).flatMap il++([]++mM (1+(4*((S r).list++(S (m+r)).list).length+([]:List UInt8).length))))) ?_;have hl:∀ r,((S r).list++(S (m+r)).list).length=16:=fun r=>by rw [aa,fV,fV]
 simp only [hl];refine Dz m 14 _ 16 15 (fun r=>(S r).list++(S (m+r)).list) (fun r=>[]++mM (1+(4*16+([]:List UInt8).length))) _ _ (by decide) zo hl ?_ ?_ ?_
 ·intro t ht
  by_cases h8:t<8
  ·rw [show Nat.blt t 8=true by rw [Nat.blt_eq];exact h8,cond_true]
   show (uS _ _ _ _ _ _ _ _ t) % TM m=_
   rw [qP (m+m) S t h8];refine (Dv m m _ fun i=>lW _).symm.trans ?_;refine kM (f:=fun i=>(S i).list.getD t 0) fun r=>?_
   rw [aA,aA,List.getElem?_append_left (by rw [fV];exact h8)]
  ·rw [show Nat.blt t 8=false by rw [← Bool.not_eq_true,Nat.blt_eq];exact h8,cond_false]
   show (uS _ _ _ _ _ _ _ _ (t - 8)) >>> (64*m)=_
   rw [qP (m+m) S (t - 8) zo];refine (Dw m m _ fun i=>lW _).symm.trans ?_;refine kM (f:=fun i=>(S (m+i)).list.getD (t - 8) 0) fun r=>?_
   rw [aA,aA,List.getElem?_append_right (by rw [fV];omega),fV]
 ·exact sV m _ 0 _ (by decide)
 ·intro j hj;have:∀ j,j<15→(wd (([]++mM (1+(4*16+([]:List UInt8).length))).drop 3) j).toNat=(t15 520).getD (j+1) 0:=by decide
  exact sV m _ (j+1) _ (this j hj)
def TO:V8:=vN 3 (vN 6 (vN 12 (vN 24 (V3 (V2 (V1 V0))))))
theorem Qe:TO=uX 3 W9:=by
 unfold TO;rw [Xa,Xd,Xe,Xf,Ju Ov 24]
 show vN 3 (vN 6 (vN 12 (uX (12+12) TH)))=_
 rw [Ju TH 12]
 show vN 3 (vN 6 (uX (6+6) TI))=_
 rw [Ju TI 6]
 show vN 3 (uX (3+3) TJ)=_
 rw [Ju TJ 3]
 rfl
theorem TP:TO.a=649475562231281127360038133599108485838446613963:=by decide +kernel
theorem Io {a b:S8} (h:gY a=gY b):a.a=b.a:=by
 have key:∀ s:S8,(wd (gY s) 0).toNat=s.a.toNat:=fun s=>by
  show (wd (_::_::_::_::_) 0).toNat=_
  rw [N7]
  show (s.a.toNat >>> 24) % 256*16777216+((s.a.toNat >>> 16) % 256*65536+(s.a.toNat >>> 8) % 256*256+s.a.toNat % 256)=s.a.toNat
  have:=s.a.toNat_lt;rw [Nat.shiftRight_eq_div_pow,Nat.shiftRight_eq_div_pow,Nat.shiftRight_eq_div_pow]
  omega
 apply UInt32.toNat_inj.1;rw [← key a,← key b,h]
theorem pk3 (f:Nat→UInt32):pk 3 f=(f 0).toNat+2 ^ 64*((f 1).toNat+2 ^ 64*((f 2).toNat+2 ^ 64*0)):=rfl
theorem F3 {x y z:Nat} (hx:x<4294967296) (hy:y<4294967296) (hz:z<4294967296) (h:x+2 ^ 64*(y+2 ^ 64*(z+2 ^ 64*0))=649475562231281127360038133599108485838446613963):x≠y∧x≠z∧y≠z:=by omega
theorem Xg (n:Nat) (S:Nat→S8):(uX n S).a=pk n fun s=>(S s).a:=rfl
theorem Qf:pk 3 (fun s=>(W9 s).a)=649475562231281127360038133599108485838446613963:=by
 have h:=TP;rw [Qe,Xg] at h
 exact h
theorem F4 {f:Nat→Nat} (h:f 0≠f 1∧f 0≠f 2∧f 1≠f 2) {i j:Nat} (hi:i<3) (hj:j<3) (he:f i=f j):i=j:=by
 rcases (show i=0∨i=1∨i=2 by omega) with rfl|rfl|rfl<;>rcases (show j=0∨j=1∨j=2 by omega) with rfl|rfl|rfl<;>first|rfl|exact absurd he h.1|exact absurd he h.2.1|exact absurd he h.2.2|exact absurd he.symm h.1|exact absurd he.symm h.2.1|exact absurd he.symm h.2.2
theorem F5 {f:Nat→UInt32} (h:pk 3 f=649475562231281127360038133599108485838446613963) {i j:Nat} (hi:i<3) (hj:j<3) (he:f i=f j):i=j:=by
 rw [pk3] at h
 exact F4 (f:=fun s=>(f s).toNat) (F3 (fv _) (fv _) (fv _) h) hi hj (congrArg UInt32.toNat he)
theorem Ls {i j:Nat} (hi:i<3) (hj:j<3) (h:kP (ek 20 [be (i+1) 4])=kP (ek 20 [be (j+1) 4])):i=j:=by
 rw [B5 i,B5 j,F2 hi,F2 hj] at h
 exact F5 (f:=fun s=>(W9 s).a) Qf hi hj (Io h)
end Go.Proofs
namespace Go.Proofs
attribute [local irreducible] Bs.cE Bs.Do Bs.O Bs.W Bs.Fin Bs.A Bs.Ct Bs.cF Bs.Rd Bs.Sat Bs.cL Bs.Ob Bs.dJ Bs.View Bs.cB Bs.Ex Bs.dH Bs.Pu Bs.eZ Bs.dO Bs.dZ
open Go.Bs
open Tryz
theorem Qg (n q room size wait retry:Int):(uN n q room size wait retry).ok:=by
 have b1:=dt n 1 3 zo;have b2:=dt q 1 (within n 1 3) zo;have b3:=dt room 1 16 zo;have b4:=dt size 1 8 zo;have b5:=dt wait 0 6 zo;have b6:=dt retry 1 4 zo;have hk:(uN n q room size wait retry).k=(within n 1 3).toNat:=rfl;have hq:(uN n q room size wait retry).ez=(within q 1 (within n 1 3)).toNat:=rfl;have hr:(uN n q room size wait retry).room=(within room 1 16).toNat:=rfl;have hs:(uN n q room size wait retry).size=(within size 1 8).toNat:=rfl;have hw:(uN n q room size wait retry).wait=(within wait 0 6).toNat:=rfl;have ht:(uN n q room size wait retry).retry=(within retry 1 4).toNat:=rfl
 generalize uN n q room size wait retry=c at *
 have h13:1≤c.k∧c.k≤3:=by omega
 refine ⟨h13,by omega,⟨⟨?_,?_⟩,⟨?_,?_⟩,?_⟩,by omega,?_⟩
 ·show 1≤c.room;omega
 ·show c.room≤16;omega
 ·show 1≤c.size;omega
 ·show c.size≤8;omega
 ·show c.wait≤1000;omega
 ·have hl:(da c).ey.length=c.k:=ll c;have Ml:(da c).ez=c.ez:=rfl;refine ⟨j5 _,by rw [Ml];omega,by rw [Ml,hl];omega,by rw [hl];omega,fun w hw=>?_,?_⟩
  ·obtain ⟨i,-,rfl⟩:=aE.1 hw;exact j5 _
  ·show ((List.range c.k).map fun i=>kP (cS (i+1))).Nodup
   refine List.Pairwise.map _ (R:=fun i j=>i≠j∧i<3∧j<3) (fun i j DD he=>DD.1 (Ls DD.2.1 DD.2.2 he)) ?_;refine List.Pairwise.imp_of_mem ?_ (List.nodup_range (n:=c.k));intro i j hi hj DD;have:=List.mem_range.1 hi;have:=List.mem_range.1 hj;exact ⟨DD,by omega,by omega⟩
def dc.Qh (c:di) (s:dc) (x:It):dc × Int × Int:=if x.k=10 then (s.ka c x.to,0,0) else if x.k=12 then s.watch else s.FM c x
theorem Lt (R:List cK) (e:World) (w:Nat) (c:di) (m:Nat) (s:dc) (ev:List (Int × Int × Int × dw)) (x:It) (v:Value) (hv:db R v x.b) (hk:1≤x.k∧x.k≤12∧x.k≠11) (Rf:x.k=10→x.to≤c.k+1) (hn:x.n≤1000) (hb:x.b.length≤200) (hm:m<250) :
 Ct prog 25 #[ptr w,.agg (x.cells v).toArray] e (dK w c m s ev::R) (fun v' L'=>v'=.agg [.int .i64 (x.k:Int),.int .i64 (s.Qh c x).2.1,.int .i64 (s.Qh c x).2.2].toArray∧∃ X,(∃ jQ,Uq jQ (s.Qh c x).1∧X=dK w c (m+1) (s.Qh c x).1 (ev++jQ))∧L'=X::R):=by
 unfold dc.Qh
 by_cases Oj:x.k=10
 ·rw [aI Oj];refine a7 (cz (hv.cM (show cB (dK w c m s ev::R) R from zE))) fun o=>?_
  obtain ⟨k,n,to,b⟩:=x;dsimp only at hv hk Rf hn hb Oj ⊢
  subst Oj
  exact kL R e w c m s ev 10 n to 0 v o _ (by decide) rfl _ _ _ fun R' f=>(FU R' e w c m s ev _ n 0 v o hm to (Rf rfl)).mono fun v' L' h=>by
   obtain ⟨h1,jQ,h2,h3⟩:=h;exact ⟨h1,_,⟨jQ,h2.d,rfl⟩,h3⟩
 ·rw [aB Oj]
  by_cases Ub:x.k=12
  ·rw [aI Ub];refine a7 (cz (hv.cM (show cB (dK w c m s ev::R) R from zE))) fun o=>?_
   obtain ⟨k,n,to,b⟩:=x;dsimp only at hv hk Rf hn hb Ub ⊢
   subst Ub
   exact kL R e w c m s ev 12 n to 0 v o _ (by decide) rfl _ _ _ fun R' f=>(FX R' e w c m s ev _ n to 0 v o hm).mono fun v' L' h=>by
    obtain ⟨h1,h3⟩:=h;exact ⟨h1,_,⟨[],rF.nil.d,by rw [aK]⟩,h3⟩
  ·rw [aB Ub];exact zY R e w c m s ev x v hv zo hn hb hm
structure Gj where
 kind:Int
 n:Int
 to:Int
 a:Int
 v:Int
 u:Value
 b:dw
abbrev Lu (x:Int):Prop:=-9223372036854775808≤x∧x≤9223372036854775807
structure Gj.ok (x:Gj):Prop where
 kind:Lu x.kind
 n:Lu x.n
 to:Lu x.to
 a:Lu x.a
 v:Lu x.v
abbrev Gj.cells (x:Gj):List Value:=[.int .i64 x.kind,.int .i64 x.n,.int .i64 x.to,.int .i64 x.a,.int .i64 x.v,x.u]
theorem ab8 (x:Gj):x.cells.length=6:=rfl
def eO:List Nat:=[1,1,2,3,4,5,6,6,6,7,8,9,10,12]
def uT (x:Int):Nat:=eO.getD ((within x 0 1048576).tmod 14).toNat 0
def fO (c:di) (x:Gj):It :=
 if uT x.kind=1 then ⟨1,0,0,if x.n.tmod 7=0 then x.b.take 40 else mU x.a x.v x.n⟩
 else if uT x.kind=2 then ⟨2,(within x.n 0 6).toNat,0,[]⟩
 else if uT x.kind=6∨uT x.kind=7∨uT x.kind=8 then ⟨uT x.kind,if 0<x.n.tmod 5 then 0 else ((within x.n 0 1048576).tmod 4).toNat,0,[]⟩
 else if uT x.kind=9 then ⟨9,(within x.n 0 6).toNat,0,[]⟩
 else if uT x.kind=10 then ⟨10,(within x.n 0 20).toNat,(within x.to 0 (c.k+1)).toNat,[]⟩
 else ⟨uT x.kind,0,0,[]⟩
theorem Jv (x:Int):∃ j:Nat,j<14∧(within x 0 1048576).tmod 14=(j:Int)∧uT x=eO.getD j 0:=by
 have h:=dt x 0 1048576 zo;refine ⟨((within x 0 1048576).tmod 14).toNat,?_,?_,rfl⟩
 ·rw [Int.tmod_eq_emod_of_nonneg h.1];omega
 ·rw [Int.tmod_eq_emod_of_nonneg h.1];omega
theorem wY {j:Nat} (h:j<14):eO.getD j 0=1∨eO.getD j 0=2∨(eO.getD j 0=6∨eO.getD j 0=7∨eO.getD j 0=8)∨eO.getD j 0=9∨eO.getD j 0=10∨(eO.getD j 0=3∨eO.getD j 0=4∨eO.getD j 0=5∨eO.getD j 0=12):=by
 have key:∀ j,j<14→eO.getD j 0=1∨eO.getD j 0=2∨(eO.getD j 0=6∨eO.getD j 0=7∨eO.getD j 0=8)∨eO.getD j 0=9∨eO.getD j 0=10∨(eO.getD j 0=3∨eO.getD j 0=4∨eO.getD j 0=5∨eO.getD j 0=12):=by decide
 exact key j h
theorem N9 (c:di) (x:Gj):(1≤(fO c x).k∧(fO c x).k≤12∧(fO c x).k≠11)∧((fO c x).k=10→(fO c x).to≤c.k+1)∧(fO c x).n≤1000∧(fO c x).b.length≤200:=by
 obtain ⟨j,hj,-,hk⟩:=Jv x.kind;have hm:=wY hj;rw [← hk] at hm
 have h1:=dt x.n 0 6 zo;have h2:=dt x.n 0 1048576 zo;have h3:=dt x.n 0 20 zo;have h4:=dt x.to 0 (c.k+1) zo;have h5:(within x.n 0 1048576).tmod 4<4:=Int.tmod_lt_of_pos _ zo
 have hs:(if x.n.tmod 7=0 then x.b.take 40 else mU x.a x.v x.n).length≤200:=by
  split
  ·rw [aF];omega
  ·exact FT _ _ _
 unfold fO
 generalize uT x.kind=κ at *
 split
 ·exact ⟨by dsimp only;omega,fun h=>by dsimp only at h;omega,aH _,hs⟩
 split
 ·exact ⟨by dsimp only;omega,fun h=>by dsimp only at h;omega,by dsimp only;omega,aH _⟩
 split
 ·rename_i h;refine ⟨by dsimp only;omega,fun h6=>?_,?_,aH _⟩
  ·dsimp only at h6;omega
  ·dsimp only;split<;>omega
 split
 ·exact ⟨by dsimp only;omega,fun h=>by dsimp only at h;omega,by dsimp only;omega,aH _⟩
 split
 ·exact ⟨by dsimp only;omega,fun _=>by dsimp only;omega,by dsimp only;omega,aH _⟩
 ·exact ⟨by dsimp only;omega,fun h6=>absurd h6 (by assumption),aH _,aH _⟩
theorem Lv (R L0:List cK) (f0:cB R L0) (e:World) (c:di) (Gd:c.k≤3) (x:Gj) (hx:x.ok) (hb:db L0 x.u x.b) :
 Ct prog 95 #[.agg x.cells.toArray,.agg (fX c).toArray] e R (fun v' L'=>∃ (A:cK) (v:Value),v'=.agg (It.cells (fO c x) v).toArray∧db (A::L0) v (fO c x).b∧v.oneCell'=true∧L'=A::R):=by
 refine a7 (cz (hb.cM f0)) fun ho=>?_
 obtain ⟨q1,q2,q3,q4,q5⟩:=hx;obtain ⟨j,hj,Gb,hk⟩:=Jv x.kind;have hm:=wY hj
 have hg:nth [Value.int .i64 1,.int .i64 1,.int .i64 2,.int .i64 3,.int .i64 4,.int .i64 5,.int .i64 6,.int .i64 6,.int .i64 6,.int .i64 7,.int .i64 8,.int .i64 9,.int .i64 10,.int .i64 12] j=some (.int .i64 ((eO.getD j 0:Nat):Int)):=by
  have key:∀ j,j<14→nth [Value.int .i64 1,.int .i64 1,.int .i64 2,.int .i64 3,.int .i64 4,.int .i64 5,.int .i64 6,.int .i64 6,.int .i64 6,.int .i64 7,.int .i64 8,.int .i64 9,.int .i64 10,.int .i64 12] j=some (.int .i64 ((eO.getD j 0:Nat):Int)):=by
   intro j hj
   match j,hj with
   | 0,_=>rfl
   | 1,_=>rfl
   | 2,_=>rfl
   | 3,_=>rfl
   | 4,_=>rfl
   | 5,_=>rfl
   | 6,_=>rfl
   | 7,_=>rfl
   | 8,_=>rfl
   | 9,_=>rfl
   | 10,_=>rfl
   | 11,_=>rfl
   | 12,_=>rfl
   | 13,_=>rfl
   | j+14,h=>exact absurd h zo
  exact key j hj
 rw [← hk] at hm hg
 have w1:=dt x.n 0 6 zo;have w2:=dt x.n 0 1048576 zo;have w3:=dt x.n 0 20 zo;have w4:=dt x.to 0 (c.k+1) zo;have t4:0≤(within x.n 0 1048576).tmod 4:=Int.tmod_nonneg _ w2.1;refine bI (args:=[_,_]) func95 rfl ntmps95 results95 rfl ?_
 (repeat (refine wA ?_;intros))
 refine aZ rfl rfl (eB _ e x.kind 0 1048576 q1 zo) ?_;rintro _ _ ⟨rfl,rfl⟩;refine O.rem rfl rfl (by decide) rfl ?_;rw [Gb]
 (repeat (refine wA ?_;intros))
 refine bW rfl (bQ zP (by rw [aC];exact hg)) rfl ?_;clear hg;have Qo:∀ X,cB X (Pu True::X):=fun X=>mI trivial
 have Lw:∀ A,db (A::L0) nY []:=fun A=>cF.nil _ 1
 rcases hm with h|h|h|h|h|h
 ·rw [h]
  (repeat (refine wA ?_;intros))
  refine aZ rfl rfl (yC _ e x.a x.v x.n q4 q5 q2) ?_;rintro _ _ ⟨ad,cc,rfl,rfl⟩
  by_cases h7:x.n.tmod 7=0
  ·have Ip:fO c x=⟨1,0,0,x.b.take 40⟩:=by unfold fO;rw [aI h,aI h7]
   rw [Ip];refine wB ?_;refine aZ rfl rfl (Mq _ e x.u x.b 40 ((hb.cM f0).cM zE) zo) ?_;rintro v' _ ⟨tG,mY,rfl⟩;refine wB ?_;apply br
   ·exact zV
   exact ⟨cT (.slice ad (mU x.a x.v x.n).length cc) (mU x.a x.v x.n)::R,zE,_,v',rfl,tG _ hb.tail,mY,rfl⟩
  ·have Ip:fO c x=⟨1,0,0,mU x.a x.v x.n⟩:=by unfold fO;rw [aI h,aB h7]
   rw [Ip];refine wB ?_;apply br
   ·exact zV
   exact ⟨cT (.slice ad (mU x.a x.v x.n).length cc) (mU x.a x.v x.n)::R,zE,_,_,rfl,bb .zero,rfl,rfl⟩
 ·obtain ⟨p,hp⟩:∃ p:Nat,within x.n 0 6=p:=⟨_,(Int.toNat_of_nonneg w1.1).symm⟩
  have Ip:fO c x=⟨2,p,0,[]⟩:=by unfold fO;rw [aB zo,aI h,hp];rfl
  rw [h,Ip]
  (repeat (refine wA ?_;intros))
  refine aZ rfl rfl (eB _ e x.n 0 6 q2 zo) ?_;rintro _ _ ⟨rfl,rfl⟩;rw [hp];refine wB ?_;apply br
  ·exact zV
  exact ⟨Pu True::R,cn (show cB _ R from zE) (Qo R),_,nY,rfl,Lw _,rfl,rfl⟩
 ·obtain ⟨p,hp⟩:∃ p:Nat,(within x.n 0 1048576).tmod 4=p:=⟨_,(Int.toNat_of_nonneg t4).symm⟩
  by_cases h5:0<x.n.tmod 5
  ·have Ip:fO c x=⟨uT x.kind,0,0,[]⟩:=by unfold fO;rw [aB zo,aB zo,aI h,aI h5]
   rw [Ip];rcases h with h|h|h<;>rw [h]
   all_goals
    (repeat (refine wA ?_;intros))
    refine aZ rfl rfl (eB _ e x.n 0 1048576 q2 zo) ?_;rintro _ _ ⟨rfl,rfl⟩;refine wB ?_;apply br
    ·exact zV
    exact ⟨Pu True::R,cn (show cB _ R from zE) (Qo R),_,nY,rfl,Lw _,rfl,rfl⟩
  ·have Ip:fO c x=⟨uT x.kind,p,0,[]⟩:=by unfold fO;rw [aB zo,aB zo,aI h,aB h5,hp];rfl
   rw [Ip];rcases h with h|h|h<;>rw [h]
   all_goals
    (repeat (refine wA ?_;intros))
    refine aZ rfl rfl (eB _ e x.n 0 1048576 q2 zo) ?_;rintro _ _ ⟨rfl,rfl⟩;refine O.rem rfl rfl (by decide) rfl ?_;rw [hp];refine wB ?_;apply br
    ·exact zV
    exact ⟨Pu True::R,cn (show cB _ R from zE) (Qo R),_,nY,rfl,Lw _,rfl,rfl⟩
 ·obtain ⟨p,hp⟩:∃ p:Nat,within x.n 0 6=p:=⟨_,(Int.toNat_of_nonneg w1.1).symm⟩
  have Ip:fO c x=⟨9,p,0,[]⟩:=by unfold fO;rw [aB zo,aB zo,aB zo,aI h,hp];rfl
  rw [h,Ip]
  (repeat (refine wA ?_;intros))
  refine aZ rfl rfl (eB _ e x.n 0 6 q2 zo) ?_;rintro _ _ ⟨rfl,rfl⟩;rw [hp];refine wB ?_;apply br
  ·exact zV
  exact ⟨Pu True::R,cn (show cB _ R from zE) (Qo R),_,nY,rfl,Lw _,rfl,rfl⟩
 ·obtain ⟨p,hp⟩:∃ p:Nat,within x.n 0 20=p:=⟨_,(Int.toNat_of_nonneg w3.1).symm⟩
  obtain ⟨r,hr⟩:∃ r:Nat,within x.to 0 (c.k+1)=r:=⟨_,(Int.toNat_of_nonneg w4.1).symm⟩
  have Ip:fO c x=⟨10,p,r,[]⟩:=by unfold fO;rw [aB zo,aB zo,aB zo,aB zo,aI h,hp,hr];rfl
  rw [h,Ip]
  (repeat (refine wA ?_;intros))
  rename_i g2 g3 g4 g6 g5;refine bk (id:=18) [11,12] (cL g2 x.cells 176 (0,0)::cL g3 (fX c) iU (0,0)::R) mixed ?_
  (refine tF 0 ?_;refine tL 1 ?_;refine tF 2 ?_;refine tL 3 ?_;refine tk 4 _ rfl (cE.kS rfl rfl zo) ?_;refine tF 6 ?_;refine tL 7 ?_)
  refine tO 5 ?_;refine bg rfl rfl (eB _ e x.to 0 (c.k+1) q3 zo) ?_;rintro _ _ ⟨rfl,rfl⟩;rw [hr];refine ⟨fun _=>zE,?_⟩
  (refine tF 9 ?_)
  refine tO 8 ?_;refine bg rfl rfl (eB _ e x.n 0 20 q2 zo) ?_;rintro _ _ ⟨rfl,rfl⟩;rw [hp];refine ⟨fun _=>zE,?_⟩
  ((refine tO 10 ?_;refine tf ?_;refine ⟨fun _=>(by (repeat first|exact zE|exact bG|refine bh ?_|(apply bw;exact zP)|refine cB.drop ?_);done),?_⟩);(refine tO 11 ?_;refine dV (ba rfl) ?_);(refine tO 12 ?_;refine tf ?_;refine ⟨zN,?_⟩))
  refine bf zK ?_;refine wB ?_;apply br
  ·exact zV
  exact ⟨Pu True::R,cn (show cB _ R from zE) (Qo R),_,nY,rfl,Lw _,rfl,rfl⟩
 ·have Ip:fO c x=⟨uT x.kind,0,0,[]⟩:=by unfold fO;rw [aB zo,aB zo,aB zo,aB zo,aB zo]
  rw [Ip];rcases h with h|h|h|h<;>rw [h]
  all_goals
   (repeat (refine wA ?_;intros))
   apply br
   ·exact zV
   exact ⟨Pu True::R,cn (show cB _ R from zE) (Qo R),_,nY,rfl,Lw _,rfl,rfl⟩
theorem F6 (R L0:List cK) (f0:cB R L0) (e:World) (c:di) (Gd:c.k≤3) (vl:Value) (ds:List Gj) (fG:Nat) (hl:cF R 6 vl ds.length (ds.flatMap Gj.cells)) (hd:∀ x∈ds,x.ok∧db L0 x.u x.b) (hm:fG≤1000) :
 Ct prog 33 #[vl,.agg (fX c).toArray,.int .i64 (fG:Int)] e R (fun v' L'=>∃ (ts:List (It × Value)) (M:cK) (ad:Option Addr) (k:Nat),v'=.slice ad ts.length k∧ts.map (·.1)=(ds.take fG).map (fO c)∧(∀ t∈ts,db (M::L0) t.2 t.1.b)∧L'=dJ eN 5 (.slice ad ts.length k) ts.length (ts.flatMap FN.cells)::M::R):=by
 refine a7 (hl.shape zo) ?_;rintro ⟨⟨J7,c0,rfl,-,a4,-,a6⟩,_⟩;simp only [maxLen] at a4
 refine a8 (args:=[_,_,_]) func33 rfl ntmps33 results33 rfl ?_
 (repeat (refine wA ?_;intros))
 rename_i g4;refine bq (ι:=List (It × Value) × cK × Option Addr × Nat) (fun q=>[(0,.slice J7 ds.length c0),(2,.int .i64 (fG:Int)),(4,ptr g4),(7,.slice q.2.2.1 q.1.length q.2.2.2),(8,.int .i64 (q.1.length:Int))]) (fun q=>dJ eN 5 (.slice q.2.2.1 q.1.length q.2.2.2) q.1.length (q.1.flatMap FN.cells)::q.2.1::cL g4 (fX c) iU (0,0)::R)
  (fun q=>q.1.map (·.1)=(ds.take q.1.length).map (fO c)∧(∀ t∈q.1,db (q.2.1::L0) t.2 t.1.b)∧q.1.length≤ds.length∧q.1.length≤fG) (fun q=>ds.length - q.1.length) ([],Pu True,none,0) ⟨rfl,(fun t ht=>absurd ht aO),aH _,aH _⟩ zS (cn (mI trivial) (cn (du eN 5) zE)) ?_
 rintro ⟨ts,M,ad,k⟩ ⟨fB,iX,hle,Us⟩;dsimp only at fB iX hle Us ⊢
 by_cases Hi:¬ (ts.length<ds.length∧ts.length<fG)
 ·have hq:ds.take ts.length=ds.take fG:=by
   by_cases h:ts.length=fG
   ·rw [h]
   ·rw [aG (show ds.length≤ts.length by omega),aG (show ds.length≤fG by omega)]
  rw [hq] at fB
  by_cases cP:ts.length<ds.length
  ·have Qj:¬ ts.length<fG:=fun h=>Hi ⟨cP,h⟩
   refine wB ?_
   all_goals exact aY (dJ eN 5 (.slice ad ts.length k) ts.length (ts.flatMap FN.cells)::M::R) rfl zE ⟨ts,M,ad,k,rfl,fB,iX,rfl⟩
  ·refine wB ?_
   all_goals exact aY (dJ eN 5 (.slice ad ts.length k) ts.length (ts.flatMap FN.cells)::M::R) rfl zE ⟨ts,M,ad,k,rfl,fB,iX,rfl⟩
 obtain ⟨cP,WY⟩:=Decidable.not_not.1 Hi;rcases a6 with a6|⟨gl,ol,rfl⟩
 ·omega
 have hg:ds[ts.length]?=some (ds[ts.length]'cP):=ae cP;obtain ⟨j1,hbx⟩:=hd _ (ax cP);have fq:ds.take (ts.length+1)=ds.take ts.length++[ds[ts.length]'cP]:=aD cP
 generalize ds[ts.length]'cP=x at hg j1 hbx fq
 have hr:dZ R gl (ol+ts.length*6) x.cells:=dZ.elem hl ab8 hg;refine bD (cz (hbx.cM (cn (show cB _ R from zE) f0))) fun o=>?_
 refine wB ?_;refine bk (id:=5) [9] (cL g4 (fX c) iU (0,0)::R) mixed ?_
 (refine tM 0 ?_;refine tM 1 ?_;refine tM 2 ?_)
 refine tk 3 _ rfl (bE rfl rfl zo) ?_;refine tk 4 _ rfl (cE.dx rfl hr.tail zX) ?_
 (refine tJ 5 ?_)
 refine tO 6 ?_;refine bg rfl rfl (Lv _ L0 (cn (show cB _ R from zE) f0) e c Gd x j1 hbx) ?_;rintro _ _ ⟨A1,v,rfl,hv,ho,rfl⟩;refine ⟨fun _=>zE,?_⟩;refine tO 7 ?_;refine bF rfl rfl (by rfl) (by rfl) zQ (by rfl) (fun g=>⟨fun _=>zE,?_⟩);refine tO 8 ?_;refine bo rfl rfl rfl (show cR _ (dJ eN 5 (.slice ad ts.length k) ts.length (ts.flatMap FN.cells)) _ from zP) (bP (n:=5) (c:=1) zP rfl zl) rfl rfl zO zm zo fun eE c3 _=>⟨fun _=>zE,?_⟩
 ((refine tO 9 ?_;refine dV (bj rfl) ?_))
 refine bf zK ?_;have oR:(ts++[(fO c x,v)]).length=ts.length+1:=by rw [aa];rfl
 refine wB ?_;refine bi (ts++[(fO c x,v)],dH [M,A1],eE,c3) ⟨?_,?_,?_,?_⟩ zd ?_ ?_
 ·dsimp only;rw [oR,fq,ah,ah,fB]
  rfl
 ·dsimp only;intro t ht;rcases aJ.1 ht with ht|ht
  ·exact (iX t ht).cM (cn (cU (M:=[M,A1]) (L:=L0)) zE)
  ·rw [an.1 ht];exact hv.cM (cn (cU (M:=[M,A1]) (L:=L0)) zE)
 ·dsimp only;omega
 ·dsimp only;omega
 ·dsimp only;rw [oR];exact zS
 ·dsimp only;rw [oR,aW,aT,List.flatMap_nil,aK];refine cn (show cB _ (M::A1::dJ eN 5 (.slice eE (ts.length+1) c3) (ts.length+1) (ts.flatMap FN.cells++FN.cells (fO c x,v))::cL g4 (fX c) iU (0,0)::R) from zE) ?_;exact cn (dS (M:=[M,A1])) zE
end Go.Proofs
namespace Go.Proofs
open Go.Bs
open Tryz
theorem Iq {W:World} {v:Value} (h:OE prog W 70 v) :
 ∃ l:List Gj,cF [eZ W] 6 v l.length (l.flatMap Gj.cells)∧∀ x∈l,x.ok∧db [eZ W] x.u x.b:=by
 obtain ⟨v',css,h0,h1,h2,h3⟩:=A4 (n:=6) underlying70 zK zo (Gu underlying70 h)
 cases h0
 obtain ⟨l,rfl,h4⟩:=u4 (α:=Gj) (f:=Gj.cells) (ok:=fun a=>a.ok∧db [eZ W] a.u a.b) (css:=css) fun c hc=>by
  obtain ⟨h5,h6⟩:=h3 c hc
  match c,h5 with
  | [c0,c1,c2,c3,c4,c5],_ =>
   obtain ⟨k0,e0,w0⟩:=oM underlying3 (mB (i:=0) underlying176 h6 rfl zK rfl);obtain ⟨k1,e1,w1⟩:=oM underlying3 (mB (i:=1) underlying176 h6 rfl zK rfl);obtain ⟨k2,e2,w2⟩:=oM underlying3 (mB (i:=2) underlying176 h6 rfl zK rfl);obtain ⟨k3,e3,w3⟩:=oM underlying3 (mB (i:=3) underlying176 h6 rfl zK rfl);obtain ⟨k4,e4,w4⟩:=oM underlying3 (mB (i:=4) underlying176 h6 rfl zK rfl);obtain ⟨u,b,e5,w5,_⟩:=JF underlying30 underlying5 zK zK (mB (i:=5) underlying176 h6 rfl zK rfl)
   cases e0;cases e1;cases e2;cases e3;cases e4;cases e5
   exact ⟨⟨k0,k1,k2,k3,k4,c5,b⟩,rfl,⟨kW w0,kW w1,kW w2,kW w3,kW w4⟩,w5⟩
 rw [ab] at h1
 rw [← List.flatMap_def] at h1
 exact ⟨l,h1,h4⟩
end Go.Proofs
namespace Go.Proofs
attribute [local irreducible] Bs.cE Bs.Do Bs.O Bs.W Bs.Fin Bs.A Bs.Ct Bs.cF Bs.Rd Bs.Sat Bs.cL Bs.Ob Bs.dJ Bs.View Bs.cB Bs.Ex Bs.dH Bs.Pu Bs.eZ Bs.dO Bs.dZ
open Go.Bs
open Tryz
theorem Oa {w:Nat} {c:di} {m:Nat} {s:dc} {ev:List (Int × Int × Int × dw)} {L R:List cK} (p:cR L (dK w c m s ev) R):∀ h,dO L h→s.ok c m∧ev.length≤600*m:=fun h x =>
 (jR (Tq (cn p.out (jF fun a=>jF fun M=>cn (cU (M:=[Pu (a.es.map (fun x=>(x.k,x.a,x.b,x.t))=ev),uF w c m s a M]) (L:=R)) (rW fun he=>cn (cU (M:=Pu (a.ok M w c m s)::dP w c s a M []) (L:=R)) (rW fun ha=>cn (mI (p:=s.ok c m∧ev.length≤600*m) ⟨ha.st,by rw [← he,ab];exact ha.ec⟩) (show cB _ [Pu (s.ok c m∧ev.length≤600*m)] from bh bG))))) x)).1
theorem F7 (R:List cK) (e:World) (w:Nat) (c:di) (m:Nat) (s:dc) (ev:List (Int × Int × Int × dw)) :
 Ct prog 53 #[ptr w] e (dK w c m s ev::R) (fun v' L'=>∃ (es:List Ev) (N:cK) (ad:Option Addr) (k:Nat),v'=.slice ad es.length k∧lV es=ev∧(∀ x∈es,db [N] x.v x.t∧x.t.length≤1000)∧L'=fC (.slice ad es.length k) es::N::dK w c m s ev::R):=by
 refine gN fun a M ha he=>?_
 have PC:=ha.ec;have Q5:=ha.st.steps;refine a7 (fk (show cR (dP w c s a M R) (fC a.ve a.es) _ from zP)) ?_;rintro ⟨⟨J7,c0,J9,wa,wZ,h7⟩,-⟩;refine a8 (args:=[_]) func53 rfl ntmps53 results53 rfl ?_;refine wB ?_;rw [J9];refine wB ?_;refine bq (ι:=List Ev × cK × Option Addr × Nat) (fun q=>[(3,.slice q.2.2.1 q.1.length q.2.2.2),(9,.slice J7 a.es.length c0),(10,.int .i64 (a.es.length:Int)),(11,.int .i64 (q.1.length:Int))]) (fun q=>fC (.slice q.2.2.1 q.1.length q.2.2.2) q.1::q.2.1::dP w c s a M R)
  (fun q=>lV q.1=(lV a.es).take q.1.length∧(∀ x∈q.1,db [q.2.1] x.v x.t∧x.t.length≤1000)∧q.1.length≤a.es.length) (fun q=>a.es.length - q.1.length) ([],Pu True,none,0) ⟨rfl,(fun x hx=>absurd hx aO),aH _⟩ zS ?_ ?_
 ·dsimp only [dP];rw [J9];exact cn (mI trivial) (cn (du tEv 4) zE)
 rintro ⟨l,N,ad,k⟩ ⟨hl,iX,hle⟩;dsimp only at hl iX hle ⊢
 by_cases cP:l.length<a.es.length
 rotate_left
 ·have hq:l.length=a.es.length:=by omega
  rw [hq,aG (by rw [ab];exact aS _)] at hl
  refine wB ?_;exact aY (fC (.slice ad l.length k) l::N::dK w c m s ev::R) rfl (cn (show cB _ (fC (.slice ad l.length k) l::N::dP w c s a M R) from zE) (bh (bh (dU ha he)))) ⟨l,N,ad,k,rfl,hl.trans he,iX,rfl⟩
 rcases h7 with ⟨-,-,h7⟩|⟨g0,rfl⟩
 ·omega
 have hg:a.es[l.length]?=some (a.es[l.length]'cP):=ae cP;obtain ⟨Of,Ei⟩:=ha.es _ (ax cP)
 have fq:(lV a.es).take (l.length+1)=(lV a.es).take l.length++[((a.es[l.length]'cP).k,(a.es[l.length]'cP).a,(a.es[l.length]'cP).b,(a.es[l.length]'cP).t)]:=by
  rw [List.take_add_one,lV,aL,hg];rfl
 generalize a.es[l.length]'cP=x at hg Of Ei fq
 have hro:∀ L,cB L [fC a.ve a.es]→dZ L g0 (0+l.length*4) x.cells:=fun L f=>by
  have h:cF L 4 (.slice (some ⟨g0,0,none⟩) a.es.length c0) a.es.length (a.es.flatMap Ev.cells):=by
   rw [← J9];exact (bb .zero).cM f
  exact dZ.elem h Ev.len hg
 refine bD (cz (Of.cM (show cB _ [M] from cH zP))) fun o=>?_
 refine wB ?_;refine O.dx (cs:=x.cells) rfl (hro _ (cH zP)) zX rfl ?_
 (repeat (refine wA ?_;intros))
 rename_i g5;refine O.fp (du oP 1) ?_;refine bC (bo rfl rfl rfl .zero (Of.cM (show cB _ [M] from cH zP)) rfl rfl lQ zm zo fun dW c2 _=>?_)
 rw [aC,List.nil_append]
 (repeat (refine wA ?_;intros))
 refine bC (bo rfl rfl rfl (show cR _ (fC (.slice ad l.length k) l) _ from zP) (bP (n:=4) (c:=1) zP rfl zl) rfl rfl zO zm zo fun eE c3 _=>?_)
 have oR:(l++[(⟨x.k,x.a,x.b,.slice dW x.t.length c2,x.t⟩:Ev)]).length=l.length+1:=by rw [aa];rfl
 refine wB ?_;refine bi (l++[(⟨x.k,x.a,x.b,.slice dW x.t.length c2,x.t⟩:Ev)],dH [N,cT (.slice dW x.t.length c2) x.t],eE,c3) ⟨?_,?_,?_⟩ zd ?_ ?_
 ·dsimp only;rw [oR,fq,← hl,lV,ah]
  rfl
 ·dsimp only;intro y hy;rcases aJ.1 hy with hy|hy
  ·exact ⟨(iX y hy).1.cM Dg,(iX y hy).2⟩
  ·rw [an.1 hy];exact ⟨cF.cM (bb .zero) Dh,Ei⟩
 ·dsimp only;omega
 ·dsimp only;rw [oR];exact zS
 ·dsimp only;rw [fC,oR,aW,aT,List.flatMap_nil,aK];exact cn (ea (A:=N) (B:=cT (.slice dW x.t.length c2) x.t) zP zP) zE
def dc.quiet (s:dc):Prop:=s.fs.recs=[]∧s.up.recs=[]
theorem dc.ok.none {c:di} {m:Nat} {s:dc} (h:s.ok c m) (q:s.fs.recs=[]):s.ls.cG=[]∧s.ee=[]:=by
 have hp:=h.perm.length_eq;rw [q,aa,List.length_nil] at hp
 have hi:s.ls.cG=[]:=List.eq_nil_of_length_eq_zero zo;refine ⟨hi,?_⟩
 cases hn:s.ee with
 | nil=>rfl
 | cons x l =>
  have:=(h.ee x (by rw [hn];exact List.mem_cons_self)).1;rw [hi] at this
  exact absurd this (Nat.lt_irrefl 0)
theorem dc.Oc {c:di} {m:Nat} {s:dc} {x:It} (h:s.ok c m) (q:s.quiet) (hx:x.k≠1):(s.Qh c x).1.quiet:=by
 obtain ⟨q1,q2⟩:=q;obtain ⟨-,hn⟩:=h.none q1;unfold dc.Qh
 split
 ·unfold dc.ka
  split
  ·exact ⟨q1,q2⟩
  ·split
   ·exact ⟨q1,q2⟩
   ·exact ⟨q1,q2⟩
 split
 ·unfold dc.watch
  split
  ·exact ⟨q1,q2⟩
  ·split
   ·exact ⟨q1,q2⟩
   ·exact ⟨q1,q2⟩
 unfold dc.FM
 split
 ·contradiction
 ·exact ⟨q1,q2⟩
 ·unfold dc.Gi;dsimp only
  split
  ·exact ⟨q1,q2⟩
  ·exact ⟨q1,q2⟩
 ·unfold dc.je;dsimp only
  split
  ·exact ⟨q1,q2⟩
  ·exact ⟨q1,q2⟩
 ·exact ⟨q1,q2⟩
 ·unfold dc.AH;rw [hn,List.getElem?_nil];exact ⟨q1,q2⟩
 ·dsimp only
  split
  ·exact ⟨q1,q2⟩
  ·exact ⟨q1,q2⟩
 ·unfold dc.LI;dsimp only
  split
  ·exact ⟨q1,q2⟩
  ·split
   ·exact ⟨q1,q2⟩
   ·exact ⟨q1,q2⟩
 ·unfold dc.Ot;dsimp only
  split
  ·exact ⟨q1,q2⟩
  split
  ·exact ⟨q1,q2⟩
  split
  ·exact ⟨q1,q2⟩
  ·exact ⟨q1,q2⟩
 ·exact ⟨q1,q2⟩
def EvQ (ev:List (Int × Int × Int × dw)):Prop:=∀ x∈ev,x.1=7∨(x.1=3∧x.2.1=0)
theorem Uq.quiet {c:di} {m:Nat} {s:dc} {ev:List (Int × Int × Int × dw)} (h:Uq ev s) (hs:s.ok c m) (q:s.quiet):EvQ ev:=fun x hx=>by
 rcases h x hx with ⟨h1,ch,h2,h3⟩|⟨-,h1|h1⟩
 ·obtain ⟨h4,-⟩:=hs.signed ch h2;have:=h4.1;rw [(hs.none q.1).1] at this
  right
  rw [h3];exact ⟨rfl,by show (ch.size:Int)=0;simp only [List.length_nil] at this;omega⟩
 ·exact .inl h1
 ·exact absurd q.1 h1
theorem AO (R:List cK) (e:World) (v1:Value) (n:Int) (ds:List Gj) (hn:Lu n) (hl:cF R 6 v1 ds.length (ds.flatMap Gj.cells)) (hd:∀ x∈ds,x.ok∧db R x.u x.b) :
 Ct prog 10 #[.int .i64 n,v1] e R (fun v' L'=>v'=.bool true∧R=L'):=by
 refine a7 (hl.shape zo) ?_;rintro ⟨⟨J7,c0,rfl,-,a4,-,a6⟩,_⟩;refine a8 (args:=[_,_]) func10 rfl ntmps10 results10 rfl ?_;refine wB ?_;refine aZ rfl rfl (wX _ e n 1 8 2 1 1 hn zo zo zo zo zo) ?_;rintro _ _ ⟨rfl,rfl⟩;have hc:=Qg n 1 8 2 1 1
 generalize uN n 1 8 2 1 1=c at *
 (repeat (refine wA ?_;intros))
 rename_i g5;refine aZ rfl rfl (zZ _ e c hc) ?_;rintro _ _ ⟨w,rfl,rfl⟩;refine wB ?_;refine aZ rfl rfl (F6 _ R zE e c hc.k.2 _ ds 50 (hl.cM zE) hd zo) ?_;rintro _ _ ⟨ts,M,ad,k,rfl,fB,iX,rfl⟩
 have hle:ts.length≤50:=by
  have h:=congrArg List.length fB;rw [ab,ab,aF] at h
  omega
 have sf:∀ t∈ts,∃ x,t.1=fO c x:=fun t ht=>by
  have h1:t.1∈ts.map (·.1):=aE.2 ⟨t,ht,rfl⟩;rw [fB] at h1
  obtain ⟨x,-,h2⟩:=aE.1 h1;exact ⟨x,h2.symm⟩
 refine wB ?_;refine bq (ι:=Nat × Nat × dc × List (Int × Int × Int × dw)) (fun q=>[(6,ptr w),(7,.slice ad ts.length k),(8,.int .i64 (q.1:Int))]) (fun q=>dJ eN 5 (.slice ad ts.length k) ts.length (ts.flatMap FN.cells)::M::dK w c q.2.1 q.2.2.1 q.2.2.2::R)
  (fun q=>q.2.1≤q.1∧q.1≤ts.length∧q.2.2.1.quiet∧EvQ q.2.2.2) (fun q=>ts.length - q.1) (0,0,pG c,[]) ⟨aS _,aH _,⟨rfl,rfl⟩,(fun x hx=>absurd hx aO)⟩ zS zE ?_
 rintro ⟨i,m,s,ev⟩ ⟨hm,hi,hq,yp⟩;dsimp only at hm hi hq yp ⊢
 refine bD (Oa (show cR _ (dK w c m s ev) _ from zP)) fun hs=>?_
 by_cases cP:i<ts.length
 ·refine bD (fk (show cR _ (dJ eN 5 (.slice ad ts.length k) ts.length (ts.flatMap FN.cells)) _ from zP)) ?_;rintro ⟨⟨lO,k',lP,Xr,xu,h7⟩,-⟩
  cases lP
  rcases h7 with ⟨-,-,h7⟩|⟨gt,rfl⟩
  ·omega
  have hg:ts[i]?=some (ts[i]'cP):=ae cP;obtain ⟨x,hx⟩:=sf _ (ax cP);have rI:=iX _ (ax cP)
  generalize ts[i]'cP=t at hg hx rI
  obtain ⟨hk,Rf,QW,hb⟩:=N9 c x;rw [← hx] at hk Rf QW hb
  have QB:∀ (L R':List cK),cR L (dJ eN 5 (.slice (some ⟨gt,0,none⟩) ts.length k) ts.length (ts.flatMap FN.cells)) R'→Rd L ⟨gt,0+i*5+0,none⟩ (.int .i64 (t.1.k:Int)):=fun L R' p=>cF.elemOf (bb p) Tl hg rfl
  have RO:∀ (L R':List cK),cR L (dJ eN 5 (.slice (some ⟨gt,0,none⟩) ts.length k) ts.length (ts.flatMap FN.cells)) R'→dZ L gt (0+i*5) (FN.cells t):=fun L R' p=>dZ.elem (bb p) Tl hg
  refine bD (cz (rI.cM (show cB _ (M::R) from zE))) fun o=>?_
  by_cases h1:t.1.k=1
  ·refine wB ?_;refine bW rfl (QB _ _ zP) rfl ?_;rw [h1];refine wB ?_;refine bi (i+1,m,s,ev) ⟨by dsimp only;omega,by dsimp only;omega,hq,yp⟩ zd zS zE
  ·refine wB ?_;refine bW rfl (QB _ _ zP) rfl ?_;refine wB ?_;refine O.dx rfl (RO _ _ zP) zX rfl ?_;refine aZ rfl rfl (Ct.at (show cR _ (dK w c m s ev) _ from zP) (Lt _ e w c m s ev t.1 t.2 (rI.cM zE) hk Rf QW hb zo)) ?_;rintro _ _ ⟨rfl,_,⟨jQ,IC,rfl⟩,rfl⟩;refine bn (Oa (show cR _ (dK w c (m+1) (s.Qh c t.1).1 (ev++jQ)) _ from zP)) fun mz=>?_
   have z9:=dc.Oc hs.1 hq h1;refine wB ?_;refine bi (i+1,m+1,(s.Qh c t.1).1,ev++jQ) ⟨by dsimp only;omega,by dsimp only;omega,z9,fun y hy=>?_⟩ zd zS zE;rcases aJ.1 hy with hy|hy
   ·exact yp y hy
   ·exact IC.quiet mz.1 z9 y hy
 refine wB ?_;refine aZ rfl rfl (Ct.at (show cR _ (dK w c m s ev) _ from zP) (F7 _ e w c m s ev)) ?_;rintro _ _ ⟨es,N,C8,ke,rfl,Pa,hre,rfl⟩
 have DS:es.length≤30000:=by
  have h:=congrArg List.length Pa;rw [ab] at h
  have:=hs.2
  omega
 refine wB ?_;refine bq (ι:=Nat) (fun j=>[(6,ptr w),(39,.slice C8 es.length ke),(40,.int .i64 (es.length:Int)),(41,.int .i64 (j:Int))]) (fun _=>fC (.slice C8 es.length ke) es::N::dK w c m s ev::R) (fun j=>j≤es.length) (fun j=>es.length - j) 0 (aH _) zS zE ?_;intro j hj
 by_cases iH:j<es.length
 ·refine bD (fk (show cR _ (fC (.slice C8 es.length ke) es) _ from zP)) ?_;rintro ⟨⟨lO,k',lP,Xr,xu,h7⟩,-⟩
  cases lP
  rcases h7 with ⟨-,-,h7⟩|⟨gt,rfl⟩
  ·omega
  have hg:es[j]?=some (es[j]'iH):=ae iH;have TZ:=yp ((es[j]'iH).k,(es[j]'iH).a,(es[j]'iH).b,(es[j]'iH).t) (by rw [← Pa];exact aE.2 ⟨_,ax iH,rfl⟩);obtain ⟨Of,-⟩:=hre _ (ax iH)
  generalize es[j]'iH=x at hg TZ Of
  dsimp only at TZ
  refine bD (cz (Of.cM (show cB _ [N] from cH zP))) fun o=>?_
  have RO:∀ (L R':List cK),cR L (fC (.slice (some ⟨gt,0,none⟩) es.length ke) es) R'→dZ L gt (0+j*4) x.cells:=fun L R' p=>dZ.elem (bb p) Ev.len hg
  refine wB ?_;refine O.dx (cs:=x.cells) rfl (RO _ _ zP) zX rfl ?_;rcases TZ with h1|⟨h1,h2⟩
  ·unfold Ev.cells;rw [h1]
   (repeat (refine wA ?_;intros))
   exact bi (j+1) iH zo zS zE
  ·unfold Ev.cells;rw [h1,h2]
   (repeat (refine wA ?_;intros))
   exact bi (j+1) iH zo zS zE
 obtain ⟨Xq,hn0⟩:=hs.1.none hq.1;have QB:=hq.1;have hu0:s.up.m.hO=0:=by unfold m6.m;rw [hq.2];rfl
 refine wB ?_;refine FO (show cR _ (dK w c m s ev) _ from zP) fun a M2 ha he=>?_
 have Ab:a.nl.length=0:=by have h:=congrArg List.length ha.ee;rw [ab,ab,hn0] at h;exact h
 refine aZ rfl rfl (Ct.at zP (uM _ e w c s a)) ?_;rintro _ _ ⟨rfl,rfl⟩;refine aZ rfl rfl (Ct.at zP (sz _ e a.gl a.ld a.lk (cS 0) s.ls)) ?_;rintro _ _ ⟨rfl,rfl⟩;rw [Xq,List.length_nil]
 (repeat (refine wA ?_;intros))
 refine aZ rfl rfl (Ct.at zP (wW _ e w c s a)) ?_;rintro _ _ ⟨rfl,rfl⟩;refine aZ rfl rfl (Ct.at zP (kI _ e a.gf a.wV a.gl c.f s.fs)) ?_;rintro _ _ ⟨rfl,rfl⟩;rw [QB,List.length_nil];refine wB ?_;refine aZ rfl rfl (Ct.at zP (lv _ e w c s a)) ?_;rintro _ _ ⟨rfl,rfl⟩
 (repeat (refine wA ?_;intros))
 refine aZ rfl rfl (Ct.at zP (nI _ e a.gu a.ud iL (da c) s.up)) ?_;rintro _ _ ⟨rfl,rfl⟩;rw [hu0];refine wB ?_;refine aZ rfl rfl (Ct.at zP (B3 _ e w c s a)) ?_;rintro _ _ ⟨rfl,rfl⟩
 (repeat (refine wA ?_;intros))
 refine aZ rfl rfl (Ct.at zP (BR _ e a.gn 32 a.nl)) ?_;rintro _ _ ⟨rfl,rfl⟩;rw [Ab];refine wB ?_;refine aZ rfl rfl (Ii _ e) ?_;rintro _ _ ⟨rfl,rfl⟩;refine wB ?_;exact aY R rfl zE ⟨rfl,rfl⟩
end Go.Proofs
namespace Go.Proofs.YtccekbdjebohcaaGreat.topQuiet
open Go.ChangeShapes Go.WideShapes Go.ChangeAt Go.RowKit Go.Bs
set_option maxRecDepth 100000 in
theorem walk (W:World) (vs:List Value) (h:OF Tryz.prog W [3,70] vs) :
 Calls Tryz.prog 10 vs.toArray W fun e w'=>e=.returned (.bool true)∧Below W.heap.size W w':=by
 match vs,h with
 | [v0,v1],⟨h0,h1,_⟩ =>
  obtain ⟨a0,rfl,w0⟩:=LX Tryz.underlying3 h0;obtain ⟨a1,r1,t1⟩:=Iq h1;exact Ct.calls ((AO [eZ W] W v1 a0 a1 (kW w0) r1 t1).mono fun v L' ⟨h1,h2⟩=>⟨h1,[],h2.symm⟩)
theorem own:ownKnob Tryz.prog.godebug=none:=by kernel_rfl
set_option maxRecDepth 100000 in
theorem lifted (os:Os) (started:os.Started) (H:Type) (enc:TypeId × Value→H) :
 ReturnsInHanded {} Tryz.checked os 10 .any (Rows.topQuietSpec.pre6 enc Tryz.prog Tryz.f10 Rows.topQuietRow.domain false) (Rows.topQuietSpec.post enc Tryz.prog Tryz.f10 false true false false) :=
 Gv (C:=Tryz.checked) (fn:=Tryz.f10) own started (by kernel_rfl) Tryz.func10
  (ChangeSpec.witness6 (enc:=enc) (C:=Tryz.checked) false ⟨#[],#[.int .i64 0,.slice none 0 0],[]⟩ 8 (by kernel_rfl) (by kernel_rfl) (by kernel_rfl) (by kernel_rfl))
  rfl rfl (fun ds h=>by
   rw [Tryz.params10] at h
   match ds,h with
   | [_,_],_=>rfl)
  rfl Tryz.underlying4 (by kernel_rfl) (by decide +kernel) (fun W vs h=>walk W vs (by rw [Tryz.params10] at h;exact h))
theorem jY {a b:Bool} (h:a=true) (h2:b=true):(a && b)=true:=by rw [h,h2];rfl
set_option maxHeartbeats 4000000 in
theorem closed:joinedFacts Tryz.prog 10 Tryz.f10 Rows.topQuietSpec Rows.topQuietRow=true:=by
 unfold joinedFacts;refine jY (jY (jY (jY (jY (jY (jY (jY (jY (jY (jY (jY (jY (jY (jY (jY (jY (jY (jY (jY (jY (jY (jY (jY (jY (jY (jY (jY (jY (jY (jY ?_ ?_) ?_) ?_) ?_) ?_) ?_) ?_) ?_) ?_) ?_) ?_) ?_) ?_) ?_) ?_) ?_) ?_) ?_) ?_) ?_) ?_) ?_) ?_) ?_) ?_) ?_) ?_) ?_) ?_) ?_) ?_
 all_goals (as_aux_lemma=>kernel_rfl)
theorem over:Rows.topQuietRow.holds Tryz.pinned (OpenSpec.ofChange Rows.topQuietSpec) :=
 OpenClaim.holds_of_wide 10 Tryz.f10 rfl rfl rfl rfl rfl rfl rfl ⟨rfl,rfl,rfl,rfl,rfl⟩ rfl rfl rfl rfl rfl (by kernel_rfl) Tryz.func10 closed
  (of_decide_eq_true (by kernel_rfl)) (by unfold Func.isWrapper;first|(rw [aI (by decide +kernel)];kernel_rfl)|(rw [aB (by decide +kernel)];exact ⟨rfl,rfl⟩))
  (fun os started H enc _=>lifted os started H enc)
theorem proved:Rows.TopQuietSaid:=over
#print axioms proved
end Go.Proofs.YtccekbdjebohcaaGreat.topQuiet
