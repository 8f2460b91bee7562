/- TopKeys returns true for any arguments; nothing of the old memory is turned. No condition. -/
import Derived.Test.YtccekbdjebohcaaGreatK11
set_option linter.unusedVariables false
set_option linter.unusedSimpArgs false
namespace Go.Bs
def lk:Nat→(Nat→Nat)→Nat
 | 0,_=>0
 | n+1,f=>f 0+2 ^ 64*lk n fun i=>f (i+1)
abbrev pk (n:Nat) (f:Nat→UInt32):Nat:=lk n fun i=>(f i).toNat
theorem kK {n:Nat} {f g:Nat→UInt32} (h:∀ i,f i=g i):pk n f=pk n g:=congrArg (pk n) (funext h)
def lZ (n:Nat):Nat:=lk n fun _=>4294967295
theorem mu (n:Nat) (f:Nat→UInt32):pk (n+1) f=(f 0).toNat+2 ^ 64*pk n fun i=>f (i+1):=rfl
theorem hF (n:Nat) (f:Nat→Nat):lk (n+1) f=f 0+2 ^ 64*lk n fun i=>f (i+1):=rfl
theorem gh {x:Nat} (X:Nat) (h:x<2 ^ 64) (j:Nat):(x+2 ^ 64*X).testBit j=if j<64 then x.testBit j else X.testBit (j - 64):=by
 rw [Nat.add_comm,Nat.testBit_two_pow_mul_add X h]
theorem FY {x y X Y:Nat} (hx:x<2 ^ 64) (hy:y<2 ^ 64):(x+2 ^ 64*X) &&& (y+2 ^ 64*Y)=(x &&& y)+2 ^ 64*(X &&& Y):=by
 apply Nat.eq_of_testBit_eq;intro j;rw [Nat.testBit_and,gh _ hx,gh _ hy,gh _ (Nat.lt_of_le_of_lt Nat.and_le_left hx),Nat.testBit_and,Nat.testBit_and]
 split<;>rfl
theorem P1 {x y X Y:Nat} (hx:x<2 ^ 64) (hy:y<2 ^ 64):(x+2 ^ 64*X) ||| (y+2 ^ 64*Y)=(x ||| y)+2 ^ 64*(X ||| Y):=by
 apply Nat.eq_of_testBit_eq;intro j;rw [Nat.testBit_or,gh _ hx,gh _ hy,gh _ (Nat.or_lt_two_pow hx hy),Nat.testBit_or,Nat.testBit_or]
 split<;>rfl
theorem NX {x y X Y:Nat} (hx:x<2 ^ 64) (hy:y<2 ^ 64):(x+2 ^ 64*X) ^^^ (y+2 ^ 64*Y)=(x ^^^ y)+2 ^ 64*(X ^^^ Y):=by
 apply Nat.eq_of_testBit_eq;intro j;rw [Nat.testBit_xor,gh _ hx,gh _ hy,gh _ (Nat.xor_lt_two_pow hx hy),Nat.testBit_xor,Nat.testBit_xor]
 split<;>rfl
theorem lR (x:UInt32):x.toNat<2 ^ 64:=Nat.lt_trans x.toNat_lt (by decide)
theorem vY:∀ (n:Nat) (f g:Nat→UInt32),pk n f &&& pk n g=pk n fun i=>f i &&& g i
 | 0,_,_=>by show 0 &&& 0=0;decide
 | n+1,f,g=>by
  rw [mu,mu,mu,FY (lR _) (lR _),vY n,UInt32.toNat_and]
theorem FZ:∀ (n:Nat) (f g:Nat→UInt32),pk n f ||| pk n g=pk n fun i=>f i ||| g i
 | 0,_,_=>by show 0 ||| 0=0;decide
 | n+1,f,g=>by
  rw [mu,mu,mu,P1 (lR _) (lR _),FZ n,UInt32.toNat_or]
theorem ll:∀ (n:Nat) (f g:Nat→UInt32),pk n f ^^^ pk n g=pk n fun i=>f i ^^^ g i
 | 0,_,_=>by show 0 ^^^ 0=0;decide
 | n+1,f,g=>by
  rw [mu,mu,mu,NX (lR _) (lR _),ll n,UInt32.toNat_xor]
theorem m3:∀ (n:Nat) (f g:Nat→Nat),lk n f+lk n g=lk n fun i=>f i+g i
 | 0,_,_=>rfl
 | n+1,f,g=>by
  rw [hF,hF,hF,← m3 n]
  omega
theorem Ds:∀ (n:Nat) (f:Nat→Nat) (k:Nat),lk n f*k=lk n fun i=>f i*k
 | 0,_,_=>Nat.zero_mul _
 | n+1,f,k=>by
  rw [hF,hF,← Ds n,Nat.add_mul,Nat.mul_assoc]
theorem Tr (x:Nat):x &&& 4294967295=x % 2 ^ 32:=Nat.and_two_pow_sub_one_eq_mod x 32
theorem rl:∀ (n:Nat) (f:Nat→Nat),(∀ i,f i<2 ^ 64)→lk n f &&& lZ n=pk n fun i=>UInt32.ofNat (f i)
 | 0,_,_=>by show 0 &&& 0=0;decide
 | n+1,f,h=>by
  show (f 0+2 ^ 64*lk n _) &&& (4294967295+2 ^ 64*lZ n)=_
  rw [FY (h 0) (by decide),rl n _ fun i=>h (i+1),Tr]
  show _=(UInt32.ofNat (f 0)).toNat+_
  rw [UInt32.toNat_ofNat']
theorem uO (n:Nat) (k:UInt32):pk n (fun _=>k)=lk n (fun _=>1)*k.toNat:=by rw [Ds];simp [pk]
theorem Ts (n:Nat):lZ n=lk n (fun _=>1)*4294967295:=by rw [Ds];simp [lZ]
theorem Tt (n:Nat):lZ n=pk n fun _=>4294967295:=rfl
theorem z7 (n:Nat) (f:Nat→UInt32) (k:Nat) (hk:k<32):(pk n f <<< k) &&& lZ n=pk n fun i=>f i <<< UInt32.ofNat k:=by
 rw [Nat.shiftLeft_eq,Ds,rl]
 ·congr 1;funext i
  have h:UInt32.ofNat ((f i).toNat*2 ^ k)=f i <<< UInt32.ofNat k:=by
   apply UInt32.toNat_inj.1;rw [UInt32.toNat_ofNat',UInt32.toNat_shiftLeft,UInt32.toNat_ofNat_of_lt' (Nat.lt_trans hk (by decide)),Nat.mod_eq_of_lt hk,Nat.shiftLeft_eq]
  rw [h]
 ·intro i;have h1:=(f i).toNat_lt;have h2:2 ^ k≤2 ^ 32:=Nat.pow_le_pow_right (by decide) zo
  calc (f i).toNat*2 ^ k<2 ^ 32*2 ^ k:=Nat.mul_lt_mul_of_pos_right h1 (Nat.two_pow_pos k)
   _≤2 ^ 32*2 ^ 32:=Nat.mul_le_mul_left _ h2
   _=2 ^ 64:=by decide
theorem oE (k:Nat) (hk:k<32):∀ (n:Nat) (f:Nat→UInt32),(pk n f >>> k) &&& lZ n=pk n fun i=>f i >>> UInt32.ofNat k
 | 0,_=>by show (0 >>> k) &&& 0=0;rw [Nat.and_zero]
 | n+1,f=>by
  have ih:=oE k hk n fun i=>f (i+1)
  have hm:((f 0) >>> UInt32.ofNat k).toNat=(f 0).toNat >>> k:=by
   rw [UInt32.toNat_shiftRight,UInt32.toNat_ofNat_of_lt' (Nat.lt_trans hk (by decide)),Nat.mod_eq_of_lt hk]
  apply Nat.eq_of_testBit_eq;intro j
  show Nat.testBit ((((f 0).toNat+2 ^ 64*pk n fun i=>f (i+1)) >>> k) &&& (4294967295+2 ^ 64*lZ n)) j=Nat.testBit (((f 0) >>> UInt32.ofNat k).toNat+2 ^ 64*pk n fun i=>f (i+1) >>> UInt32.ofNat k) j
  rw [← ih,Nat.testBit_and,Nat.testBit_shiftRight,gh _ (lR _),gh _ (by decide),gh _ (lR _),hm]
  by_cases h1:j<64
  ·rw [aI h1,aI h1,show (4294967295:Nat)=2 ^ 32 - 1 by decide,Nat.testBit_two_pow_sub_one,Nat.testBit_shiftRight]
   by_cases h2:j<32
   ·rw [aI zo,ay h2,Bool.and_true]
   ·rw [aq h2,Bool.and_false,Nat.testBit_lt_two_pow];exact Nat.lt_of_lt_of_le (f 0).toNat_lt (Nat.pow_le_pow_right (by decide) zo)
  ·rw [aB h1,aB h1,aB zo,Nat.testBit_and,Nat.testBit_shiftRight,show k+j - 64=k+(j - 64) by omega]
theorem Dt:∀ (m n:Nat) (f:Nat→Nat),(∀ i,f i<2 ^ 64)→lk m f=lk (m+n) f % 2 ^ (64*m)
 | 0,n,f,_=>by show 0=_;rw [Nat.mul_zero,Nat.pow_zero,Nat.mod_one]
 | m+1,n,f,h=>by
  rw [show m+1+n=m+n+1 by omega,hF,hF,Dt m n _ fun i=>h (i+1),Nat.mul_add,Nat.pow_add,Nat.mul_one,Nat.mul_comm (2 ^ (64*m)) (2 ^ 64),Nat.mod_mul];have h0:=h 0
  generalize lk (m+n) _=X
  rw [Nat.add_mul_mod_self_left,Nat.mod_eq_of_lt h0,Nat.add_mul_div_left _ _ (by decide),Nat.div_eq_of_lt h0,aC]
theorem Du:∀ (m n:Nat) (f:Nat→Nat),(∀ i,f i<2 ^ 64)→lk n (fun i=>f (m+i))=lk (m+n) f >>> (64*m)
 | 0,n,f,_=>by rw [aC,Nat.mul_zero,Nat.shiftRight_zero];congr 1;funext i;rw [aC]
 | m+1,n,f,h=>by
  have ih:=Du m n (fun i=>f (i+1)) fun i=>h (i+1)
  have h0:=h 0;rw [show m+1+n=m+n+1 by omega,hF,Nat.mul_add,Nat.mul_one,Nat.add_comm (64*m) 64,Nat.shiftRight_add]
  rw [show (f 0+2 ^ 64*lk (m+n) fun i=>f (i+1)) >>> 64=lk (m+n) fun i=>f (i+1) by
   rw [Nat.shiftRight_eq_div_pow,Nat.add_mul_div_left _ _ (by decide),Nat.div_eq_of_lt h0,aC]]
  rw [← ih]
  congr 1;funext i;rw [show m+i+1=m+1+i by omega]
theorem Tu (m n k:Nat) (f:Nat→UInt32):pk n (fun i=>f (m+i))=(pk (m+(n+k)) f >>> (64*m)) % 2 ^ (64*n):=by
 rw [← Du m (n+k) _ fun i=>lR _,← Dt n k _ fun i=>lR _]
theorem NY:∀ (m n:Nat) (f:Nat→Nat),lk (m+n) f=lk m f+2 ^ (64*m)*lk n fun i=>f (m+i)
 | 0,n,f=>by
  show _=0+_
  rw [aC,aC,Nat.mul_zero,Nat.pow_zero,Nat.one_mul];congr 1;funext i;rw [aC]
 | m+1,n,f=>by
  rw [show m+1+n=m+n+1 by omega,hF,hF,NY m n,Nat.mul_add (2 ^ 64),← Nat.mul_assoc,← Nat.pow_add,show 64+64*m=64*(m+1) by omega,Nat.add_assoc]
  congr 4;funext i;rw [show m+i+1=m+1+i by omega]
def uM (m:Nat):Nat→Nat
 | 0=>0
 | k+1=>1+2 ^ (64*m)*uM m k
theorem NZ (m:Nat) (g:Nat→Nat) (hm:0<m):∀ k,lk (k*m) (fun i=>g (i % m))=lk m g*uM m k
 | 0=>by rw [Nat.zero_mul];rfl
 | k+1=>by
  rw [show (k+1)*m=m+k*m by rw [Nat.add_mul,Nat.one_mul,Nat.add_comm],NY]
  have h1:lk m (fun i=>g (i % m))=lk m g:=by
   have key:∀ (n o:Nat),n+o≤m→lk n (fun i=>g ((o+i) % m))=lk n (fun i=>g (o+i)):=by
    intro n
    induction n with
    | zero=>intro o _;rfl
    | succ n ih =>
     intro o ho;rw [hF,hF,Nat.add_zero,Nat.mod_eq_of_lt zo];have:=ih (o+1) zo;rw [show (fun i=>g ((o+(i+1)) % m))=fun i=>g ((o+1+i) % m) by funext i;rw [show o+(i+1)=o+1+i by omega],this]
     congr 3;funext i;rw [show o+(i+1)=o+1+i by omega]
   have:=key m 0 zo
   simpa using this
  have h2:(fun i=>g ((m+i) % m))=fun i=>g (i % m):=by funext i;rw [Nat.add_mod_left]
  rw [h1,h2,NZ m g hm k]
  show _=lk m g*(1+2 ^ (64*m)*uM m k)
  rw [Nat.mul_add,Nat.mul_one,Nat.mul_left_comm]
def force {α:Type} (n:Nat) (k:Nat→α):α:=Nat.rec (k 0) (fun m _=>k (m+1)) n
theorem force_eq {α:Type} (n:Nat) (k:Nat→α):force n k=k n:=by cases n<;>rfl
def vr (A r s:Nat):Nat:=Nat.lor (Nat.shiftRight A r) (Nat.shiftLeft A s)
theorem rU (n:Nat) (f:Nat→UInt32) (r s:Nat) (hr:0<r∧r<32) (hs:s=32 - r):vr (pk n f) r s &&& lZ n=pk n fun i=>tE (f i) r:=by
 subst hs
 show (pk n f >>> r ||| pk n f <<< (32 - r)) &&& lZ n=_
 rw [Nat.and_or_distrib_right,oE r hr.2,z7 n f (32 - r) zo,FZ]
 rfl
def Tv (M A:Nat):Nat:=Nat.land (Nat.xor (Nat.xor (vr A 2 30) (vr A 13 19)) (vr A 22 10)) M
def Tw (M A:Nat):Nat:=Nat.land (Nat.xor (Nat.xor (vr A 6 26) (vr A 11 21)) (vr A 25 7)) M
def Tx (M A:Nat):Nat:=Nat.land (Nat.xor (Nat.xor (vr A 7 25) (vr A 18 14)) (Nat.shiftRight A 3)) M
def Ty (M A:Nat):Nat:=Nat.land (Nat.xor (Nat.xor (vr A 17 15) (vr A 19 13)) (Nat.shiftRight A 10)) M
def vch (M E F G:Nat):Nat:=Nat.xor (Nat.land E F) (Nat.land (Nat.xor M E) G)
def Tz (A B C:Nat):Nat:=Nat.xor (Nat.xor (Nat.land A B) (Nat.land A C)) (Nat.land B C)
theorem P2 (n:Nat) (f:Nat→UInt32):Tv (lZ n) (pk n f)=pk n fun i=>bs0 (f i):=by
 show ((vr (pk n f) 2 30 ^^^ vr (pk n f) 13 19) ^^^ vr (pk n f) 22 10) &&& lZ n=_
 rw [Nat.and_xor_distrib_right,Nat.and_xor_distrib_right,rU n f 2 30 zo rfl,rU n f 13 19 zo rfl,rU n f 22 10 zo rfl,ll,ll]
 rfl
theorem P3 (n:Nat) (f:Nat→UInt32):Tw (lZ n) (pk n f)=pk n fun i=>bs1 (f i):=by
 show ((vr (pk n f) 6 26 ^^^ vr (pk n f) 11 21) ^^^ vr (pk n f) 25 7) &&& lZ n=_
 rw [Nat.and_xor_distrib_right,Nat.and_xor_distrib_right,rU n f 6 26 zo rfl,rU n f 11 21 zo rfl,rU n f 25 7 zo rfl,ll,ll]
 rfl
theorem P4 (n:Nat) (f:Nat→UInt32):Tx (lZ n) (pk n f)=pk n fun i=>T4 (f i):=by
 show ((vr (pk n f) 7 25 ^^^ vr (pk n f) 18 14) ^^^ (pk n f >>> 3)) &&& lZ n=_
 rw [Nat.and_xor_distrib_right,Nat.and_xor_distrib_right,rU n f 7 25 zo rfl,rU n f 18 14 zo rfl,oE 3 zo,ll,ll]
 rfl
theorem P5 (n:Nat) (f:Nat→UInt32):Ty (lZ n) (pk n f)=pk n fun i=>T5 (f i):=by
 show ((vr (pk n f) 17 15 ^^^ vr (pk n f) 19 13) ^^^ (pk n f >>> 10)) &&& lZ n=_
 rw [Nat.and_xor_distrib_right,Nat.and_xor_distrib_right,rU n f 17 15 zo rfl,rU n f 19 13 zo rfl,oE 10 zo,ll,ll]
 rfl
theorem TA (n:Nat) (e f g:Nat→UInt32):vch (lZ n) (pk n e) (pk n f) (pk n g)=pk n fun i=>ZL (e i) (f i) (g i):=by
 show (pk n e &&& pk n f) ^^^ ((lZ n ^^^ pk n e) &&& pk n g)=_
 rw [Tt,ll,vY,vY,ll];unfold ZL
 congr 1
theorem P6 (n:Nat) (a b c:Nat→UInt32):Tz (pk n a) (pk n b) (pk n c)=pk n fun i=>Vl (a i) (b i) (c i):=by
 show ((pk n a &&& pk n b) ^^^ (pk n a &&& pk n c)) ^^^ (pk n b &&& pk n c)=_
 rw [vY,vY,vY,ll,ll]
 rfl
theorem fq (x:UInt32):x.toNat<4294967296:=x.toNat_lt
theorem Dv (n:Nat) (a b:Nat→UInt32):(pk n a+pk n b) &&& lZ n=pk n fun i=>a i+b i:=by
 rw [m3,rl]
 ·congr 1
 ·intro i;have h1:=fq (a i);have h2:=fq (b i)
  omega
theorem ab8 (n:Nat) (a b c:Nat→UInt32):(pk n a+pk n b+pk n c) &&& lZ n=pk n fun i=>a i+b i+c i:=by
 rw [m3,m3,rl]
 ·congr 1;funext i;rw [UInt32.ofNat_add,UInt32.ofNat_add,UInt32.ofNat_toNat,UInt32.ofNat_toNat,UInt32.ofNat_toNat]
 ·intro i;have h1:=fq (a i);have h2:=fq (b i);have h3:=fq (c i)
  omega
theorem ab9 (n:Nat) (a b c d:Nat→UInt32):(pk n a+pk n b+pk n c+pk n d) &&& lZ n=pk n fun i=>a i+b i+c i+d i:=by
 rw [m3,m3,m3,rl]
 ·congr 1;funext i;rw [UInt32.ofNat_add,UInt32.ofNat_add,UInt32.ofNat_add,UInt32.ofNat_toNat,UInt32.ofNat_toNat,UInt32.ofNat_toNat,UInt32.ofNat_toNat]
 ·intro i;have h1:=fq (a i);have h2:=fq (b i);have h3:=fq (c i);have h4:=fq (d i)
  omega
theorem aca (n:Nat) (a b c d e:Nat→UInt32):(pk n a+pk n b+pk n c+pk n d+pk n e) &&& lZ n=pk n fun i=>a i+b i+c i+d i+e i:=by
 rw [m3,m3,m3,m3,rl]
 ·congr 1;funext i;rw [UInt32.ofNat_add,UInt32.ofNat_add,UInt32.ofNat_add,UInt32.ofNat_add,UInt32.ofNat_toNat,UInt32.ofNat_toNat,UInt32.ofNat_toNat,UInt32.ofNat_toNat,UInt32.ofNat_toNat]
 ·intro i;have h1:=fq (a i);have h2:=fq (b i);have h3:=fq (c i);have h4:=fq (d i);have h5:=fq (e i)
  omega
structure V8 where
 a:Nat
 b:Nat
 c:Nat
 d:Nat
 e:Nat
 f:Nat
 g:Nat
 h:Nat
def uX (n:Nat) (s:Nat→S8):V8:=⟨pk n fun i=>(s i).a,pk n fun i=>(s i).b,pk n fun i=>(s i).c,pk n fun i=>(s i).d,pk n fun i=>(s i).e,pk n fun i=>(s i).f,pk n fun i=>(s i).g,pk n fun i=>(s i).h⟩
def TB (M:Nat) (s:V8) (a b c d e f g h:Nat):V8 :=
 force (Nat.land (Nat.add s.a a) M) fun a=>force (Nat.land (Nat.add s.b b) M) fun b=>force (Nat.land (Nat.add s.c c) M) fun c=>force (Nat.land (Nat.add s.d d) M) fun d =>
 force (Nat.land (Nat.add s.e e) M) fun e=>force (Nat.land (Nat.add s.f f) M) fun f=>force (Nat.land (Nat.add s.g g) M) fun g=>force (Nat.land (Nat.add s.h h) M) fun h=>⟨a,b,c,d,e,f,g,h⟩
def Uv (O M:Nat) (s:V8):List Nat→Nat→Nat→Nat→Nat→Nat→Nat→Nat→Nat→Nat→Nat→Nat→Nat→Nat→Nat→Nat→Nat→Nat→Nat→Nat→Nat→Nat→Nat→Nat→Nat→V8
 | [],a,b,c,d,e,f,g,h,_,_,_,_,_,_,_,_,_,_,_,_,_,_,_,_=>TB M s a b c d e f g h
 | k::ks,a,b,c,d,e,f,g,h,w0,w1,w2,w3,w4,w5,w6,w7,w8,w9,Uw,Ux,Uy,Uz,P7,UA =>
  force (Nat.land (Nat.add (Nat.add (Nat.add (Nat.add h (Tw M e)) (vch M e f g)) (Nat.mul O k)) w0) M) fun x =>
  force (Nat.land (Nat.add d x) M) fun e'=>force (Nat.land (Nat.add (Nat.add x (Tv M a)) (Tz a b c)) M) fun a' =>
  force (Nat.land (Nat.add (Nat.add (Nat.add w0 (Tx M w1)) w9) (Ty M P7)) M) fun w' =>
  Uv O M s ks a' a b c e' e f g w1 w2 w3 w4 w5 w6 w7 w8 w9 Uw Ux Uy Uz P7 UA w'
def TC:List Nat:=[1116352408,1899447441,3049323471,3921009573,961987163,1508970993,2453635748,2870763221,3624381080,310598401,607225278,1426881987,1925078388,2162078206,2614888103,3248222580,3835390401,4022224774,264347078,604807628,770255983,1249150122,1555081692,1996064986,2554220882,2821834349,2952996808,3210313671,3336571891,3584528711,113926993,338241895,666307205,773529912,1294757372,1396182291,1695183700,1986661051,2177026350,2456956037,2730485921,2820302411,3259730800,3345764771,3516065817,3600352804,4094571909,275423344,430227734,506948616,659060556,883997877,958139571,1322822218,1537002063,1747873779,1955562222,2024104815,2227730452,2361852424,2428436474,2756734187,3204031479,3329325298]
theorem N0:kw.map UInt32.toNat=TC:=by decide +kernel
def P8 (O M:Nat) (s:V8) (w:Nat→Nat):V8:=match s with
 | ⟨a,b,c,d,e,f,g,h⟩=>force (w 0) fun w0=>force (w 1) fun w1=>force (w 2) fun w2=>force (w 3) fun w3=>force (w 4) fun w4=>force (w 5) fun w5=>force (w 6) fun w6=>force (w 7) fun w7 =>
  force (w 8) fun w8=>force (w 9) fun w9=>force (w 10) fun Uw=>force (w 11) fun Ux=>force (w 12) fun Uy=>force (w 13) fun Uz=>force (w 14) fun P7=>force (w 15) fun UA =>
  Uv O M ⟨a,b,c,d,e,f,g,h⟩ TC a b c d e f g h w0 w1 w2 w3 w4 w5 w6 w7 w8 w9 Uw Ux Uy Uz P7 UA
theorem sT (b:List UInt8) (t m:Nat) (h:t<16+m):∀ d,(sched b (m+d)).getD t 0=(sched b m).getD t 0
 | 0=>rfl
 | d+1=>by
  show (sched b (m+d)++[_]).getD t 0=_
  rw [ax,List.getElem?_append_left (by rw [gE];omega),← ax,sT b t m h d]
def nM (b:List UInt8) (t:Nat):UInt32:=(sched b t).getD t 0
theorem sU (b:List UInt8) {t m:Nat} (h:t<16+m):(sched b m).getD t 0=nM b t:=by
 unfold nM;rcases Nat.le_total m t with h1|h1
 ·obtain ⟨d,rfl⟩:=Nat.le.dest h1;exact (sT b _ m h d).symm
 ·obtain ⟨d,rfl⟩:=Nat.le.dest h1;exact sT b t t zo d
theorem N1 (b:List UInt8) (t:Nat):nM b (t+16)=nM b t+T4 (nM b (t+1))+nM b (t+9)+T5 (nM b (t+14)):=by
 rw [← sU b (t:=t+16) (m:=t+1) zo]
 show (sched b t++[QC (sched b t)]).getD (t+16) 0=_
 rw [ax,List.getElem?_append_right (by rw [gE];omega),gE,show t+16 - (16+t)=0 by omega]
 show QC (sched b t)=_
 unfold QC;rw [gE,show 16+t - 16=t by omega,show 16+t - 15=t+1 by omega,show 16+t - 7=t+9 by omega,show 16+t - 2=t+14 by omega,sU b zo,sU b zo,sU b zo,sU b zo]
theorem Ls (b:List UInt8) {t:Nat} (h:t<16):nM b t=wd b t:=by
 rw [← sU b (m:=0) zo]
 show ((List.range 16).map (wd b)).getD t 0=_
 rw [ax,aL,List.getElem?_range h]
 rfl
theorem P9 (n:Nat) (h s:Nat→S8):TB (lZ n) (uX n h) (pk n fun i=>(s i).a) (pk n fun i=>(s i).b) (pk n fun i=>(s i).c) (pk n fun i=>(s i).d) (pk n fun i=>(s i).e) (pk n fun i=>(s i).f) (pk n fun i=>(s i).g) (pk n fun i=>(s i).h)=uX n fun i=>(h i).add (s i):=by
 unfold TB;simp only [force_eq]
 show V8.mk ((pk n (fun i=>(h i).a)+pk n (fun i=>(s i).a)) &&& lZ n) ((pk n (fun i=>(h i).b)+pk n (fun i=>(s i).b)) &&& lZ n) ((pk n (fun i=>(h i).c)+pk n (fun i=>(s i).c)) &&& lZ n) ((pk n (fun i=>(h i).d)+pk n (fun i=>(s i).d)) &&& lZ n) ((pk n (fun i=>(h i).e)+pk n (fun i=>(s i).e)) &&& lZ n) ((pk n (fun i=>(h i).f)+pk n (fun i=>(s i).f)) &&& lZ n) ((pk n (fun i=>(h i).g)+pk n (fun i=>(s i).g)) &&& lZ n) ((pk n (fun i=>(h i).h)+pk n (fun i=>(s i).h)) &&& lZ n)=_
 rw [Dv,Dv,Dv,Dv,Dv,Dv,Dv,Dv]
 rfl
def jX (n:Nat):Nat:=lk n fun _=>1
theorem Qa {t:Nat} (h:t<64):TC.drop t=(kw.getD t 0).toNat::TC.drop (t+1):=by
 have hl:t<TC.length:=by rw [← N0,ae,Ba];exact h
 rw [List.drop_eq_getElem_cons hl]
 congr 1
 simp only [← N0,List.getElem_map];rw [ax,ab (by rw [Ba];exact h)]
 rfl
theorem W2 (n:Nat) (h0:V8) (ks:List Nat) (k:UInt32) (s s':Nat→S8) (w0 w1 w2 w3 w4 w5 w6 w7 w8 w9 Uw Ux Uy Uz P7 UA w16:Nat→UInt32) (h1:∀ i,s' i=JQ (s i) k (w0 i)) (h2:∀ i,w16 i=w0 i+T4 (w1 i)+w9 i+T5 (P7 i)) :
 Uv (jX n) (lZ n) h0 (k.toNat::ks) (pk n fun i=>(s i).a) (pk n fun i=>(s i).b) (pk n fun i=>(s i).c) (pk n fun i=>(s i).d) (pk n fun i=>(s i).e) (pk n fun i=>(s i).f) (pk n fun i=>(s i).g) (pk n fun i=>(s i).h) (pk n w0) (pk n w1) (pk n w2) (pk n w3) (pk n w4) (pk n w5) (pk n w6) (pk n w7) (pk n w8) (pk n w9) (pk n Uw) (pk n Ux) (pk n Uy) (pk n Uz) (pk n P7) (pk n UA)=Uv (jX n) (lZ n) h0 ks (pk n fun i=>(s' i).a) (pk n fun i=>(s' i).b) (pk n fun i=>(s' i).c) (pk n fun i=>(s' i).d) (pk n fun i=>(s' i).e) (pk n fun i=>(s' i).f) (pk n fun i=>(s' i).g) (pk n fun i=>(s' i).h) (pk n w1) (pk n w2) (pk n w3) (pk n w4) (pk n w5) (pk n w6) (pk n w7) (pk n w8) (pk n w9) (pk n Uw) (pk n Ux) (pk n Uy) (pk n Uz) (pk n P7) (pk n UA) (pk n w16):=by
 have hk:Nat.mul (jX n) k.toNat=pk n fun _=>k:=(uO n _).symm
 have hX:Nat.land (Nat.add (Nat.add (Nat.add (Nat.add (pk n fun i=>(s i).h) (Tw (lZ n) (pk n fun i=>(s i).e))) (vch (lZ n) (pk n fun i=>(s i).e) (pk n fun i=>(s i).f) (pk n fun i=>(s i).g))) (Nat.mul (jX n) k.toNat)) (pk n w0)) (lZ n)=pk n fun i=>Mh (s i) k (w0 i):=by
  rw [hk,P3,TA];exact aca n _ _ _ _ _
 have hE:Nat.land (Nat.add (pk n fun i=>(s i).d) (pk n fun i=>Mh (s i) k (w0 i))) (lZ n)=pk n fun i=>(s' i).e:=by
  refine (Dv n _ _).trans ?_;simp only [h1,JQ]
 have hA:Nat.land (Nat.add (Nat.add (pk n fun i=>Mh (s i) k (w0 i)) (Tv (lZ n) (pk n fun i=>(s i).a))) (Tz (pk n fun i=>(s i).a) (pk n fun i=>(s i).b) (pk n fun i=>(s i).c))) (lZ n)=pk n fun i=>(s' i).a:=by
  rw [P2,P6];refine (ab8 n _ _ _).trans ?_;simp only [h1,JQ]
 have hW:Nat.land (Nat.add (Nat.add (Nat.add (pk n w0) (Tx (lZ n) (pk n w1))) (pk n w9)) (Ty (lZ n) (pk n P7))) (lZ n)=pk n w16:=by
  rw [P4,P5];refine (ab9 n _ _ _ _).trans ?_;simp only [← h2]
 rw [Uv];simp only [force_eq];rw [hX,hE,hA,hW];simp only [h1,JQ]
theorem N3 (n:Nat) (hs:Nat→S8) (bs:Nat→List UInt8):∀ r t,t+r=64 →
 Uv (jX n) (lZ n) (uX n hs) (TC.drop t) (pk n fun i=>(lx (hs i) (sched (bs i) 48) t).a) (pk n fun i=>(lx (hs i) (sched (bs i) 48) t).b) (pk n fun i=>(lx (hs i) (sched (bs i) 48) t).c) (pk n fun i=>(lx (hs i) (sched (bs i) 48) t).d) (pk n fun i=>(lx (hs i) (sched (bs i) 48) t).e) (pk n fun i=>(lx (hs i) (sched (bs i) 48) t).f) (pk n fun i=>(lx (hs i) (sched (bs i) 48) t).g) (pk n fun i=>(lx (hs i) (sched (bs i) 48) t).h)
  (pk n fun i=>nM (bs i) (t+0)) (pk n fun i=>nM (bs i) (t+1)) (pk n fun i=>nM (bs i) (t+2)) (pk n fun i=>nM (bs i) (t+3)) (pk n fun i=>nM (bs i) (t+4)) (pk n fun i=>nM (bs i) (t+5)) (pk n fun i=>nM (bs i) (t+6)) (pk n fun i=>nM (bs i) (t+7)) (pk n fun i=>nM (bs i) (t+8)) (pk n fun i=>nM (bs i) (t+9)) (pk n fun i=>nM (bs i) (t+10)) (pk n fun i=>nM (bs i) (t+11)) (pk n fun i=>nM (bs i) (t+12)) (pk n fun i=>nM (bs i) (t+13)) (pk n fun i=>nM (bs i) (t+14)) (pk n fun i=>nM (bs i) (t+15))
 = uX n fun i=>ji (hs i) (bs i)
 | 0,t,h=>by
  obtain rfl:t=64:=by omega
  have h0:TC.drop 64=[]:=by decide
  rw [h0];exact P9 n hs fun i=>lx (hs i) (sched (bs i) 48) 64
 | r+1,t,h=>by
  have ih:=N3 n hs bs r (t+1) zo;rw [Qa (show t<64 by omega)];refine (W2 n _ _ _ (fun i=>lx (hs i) (sched (bs i) 48) t) (fun i=>lx (hs i) (sched (bs i) 48) (t+1)) (fun i=>nM (bs i) (t+0)) (fun i=>nM (bs i) (t+1)) (fun i=>nM (bs i) (t+2)) (fun i=>nM (bs i) (t+3)) (fun i=>nM (bs i) (t+4)) (fun i=>nM (bs i) (t+5)) (fun i=>nM (bs i) (t+6)) (fun i=>nM (bs i) (t+7)) (fun i=>nM (bs i) (t+8)) (fun i=>nM (bs i) (t+9)) (fun i=>nM (bs i) (t+10)) (fun i=>nM (bs i) (t+11)) (fun i=>nM (bs i) (t+12)) (fun i=>nM (bs i) (t+13)) (fun i=>nM (bs i) (t+14)) (fun i=>nM (bs i) (t+15)) (fun i=>nM (bs i) (t+16)) ?_ ?_).trans ih
  ·intro i
   show JQ _ _ _=_
   rw [sU (bs i) (show t<16+48 by omega)]
   rfl
  ·intro i;exact N1 (bs i) t
theorem Qb (n:Nat) (hs:Nat→S8) (bs:Nat→List UInt8) (w:Nat→Nat) (h:∀ j,j<16→w j=pk n fun i=>wd (bs i) j):P8 (jX n) (lZ n) (uX n hs) w=uX n fun i=>ji (hs i) (bs i):=by
 have h2:∀ j,j<16→w j=pk n fun i=>nM (bs i) j:=fun j hj=>by rw [h j hj];congr 1;funext i;rw [Ls _ hj]
 unfold P8 uX;simp only [force_eq];rw [h2 0 zo,h2 1 zo,h2 2 zo,h2 3 zo,h2 4 zo,h2 5 zo,h2 6 zo,h2 7 zo,h2 8 zo,h2 9 zo,h2 10 zo,h2 11 zo,h2 12 zo,h2 13 zo,h2 14 zo,h2 15 zo];exact N3 n hs bs 64 0 rfl
def fb (h:S8) (l:List UInt8):Nat→S8
 | 0=>h
 | c+1=>ji (fb h l c) ((l.drop (64*c)).take 64)
theorem Qc (h:S8) (l:List UInt8) (c:Nat):fb h l (c+1)=ji (fb h l c) ((l.drop (64*c)).take 64):=rfl
theorem Jt (h:S8) (l:List UInt8):∀ c,64*c≤l.length→iW h l=iW (fb h l c) (l.drop (64*c))
 | 0,_=>by rw [Nat.mul_zero,List.drop_zero];rfl
 | c+1,hc=>by
  rw [Jt h l c zo,oQ (by rw [aO];omega),List.drop_drop,show 64*c+64=64*(c+1) by omega]
  rfl
theorem TD {h:S8} {l:List UInt8} {k:Nat} (hl:l.length=64*k):iW h l=fb h l k:=by
 rw [Jt h l k zo,List.drop_of_length_le zo,vv (by decide)]
theorem N4 (l:List UInt8) (c j:Nat) (hj:j<16):wd ((l.drop (64*c)).take 64) j=wd l (16*c+j):=by
 have h:∀ x,x<64→((l.drop (64*c)).take 64).getD x 0=l.getD (64*c+x) 0:=fun x hx=>by
  rw [ax,List.getElem?_take_of_lt hx,List.getElem?_drop,← ax]
 unfold wd;rw [h _ zo,h _ zo,h _ zo,h _ zo,show 4*(16*c+j)=64*c+4*j by omega]
 rfl
def W3 (O M:Nat) (W:Nat→Nat) (s:V8):Nat→V8
 | 0=>s
 | c+1=>P8 O M (W3 O M W s c) fun j=>W (16*c+j)
theorem N5 (O M:Nat) (W:Nat→Nat) (s:V8) (c:Nat):W3 O M W s (c+1)=P8 O M (W3 O M W s c) fun j=>W (16*c+j):=rfl
theorem N6 (n:Nat) (hs:Nat→S8) (ms:Nat→List UInt8) (W:Nat→Nat) (k:Nat) (h:∀ t,t<16*k→W t=pk n fun i=>wd (ms i) t):∀ c,c≤k→W3 (jX n) (lZ n) W (uX n hs) c=uX n fun i=>fb (hs i) (ms i) c
 | 0,_=>rfl
 | c+1,hc=>by
  rw [N5,N6 n hs ms W k h c zo,Qb n _ (fun i=>((ms i).drop (64*c)).take 64)]
  ·simp only [Qc]
  ·intro j hj;rw [h _ zo];exact kK fun i=>by rw [N4 _ _ _ hj]
theorem uP {b c x:Nat} (h:b=c+1):(1+b*x)*c+1=(x*c+1)*b:=by
 rw [Nat.add_mul,Nat.add_mul,Nat.one_mul,Nat.one_mul,Nat.mul_assoc b,Nat.mul_comm b]
 generalize x*c*b=y
 omega
theorem W4 (n:Nat):jX n=(2 ^ (64*n) - 1) / 18446744073709551615:=by
 have key:∀ n,jX n*18446744073709551615+1=2 ^ (64*n):=by
  intro n
  induction n with
  | zero=>show 0*_+1=1;rw [Nat.zero_mul]
  | succ n ih =>
   have h:jX (n+1)=1+18446744073709551616*jX n:=hF n _;rw [h,Nat.mul_add 64,Nat.pow_add,← ih,show (2:Nat) ^ (64*1)=18446744073709551616 from rfl];exact uP rfl
 rw [← key n,Nat.add_sub_cancel,Nat.mul_div_cancel _ (by decide)]
def vh (O:Nat):V8:=⟨Nat.mul O 1779033703,Nat.mul O 3144134277,Nat.mul O 1013904242,Nat.mul O 2773480762,Nat.mul O 1359893119,Nat.mul O 2600822924,Nat.mul O 528734635,Nat.mul O 1541459225⟩
theorem W5 (n:Nat):vh (jX n)=uX n fun _=>uV:=by
 have h:∀ k:UInt32,Nat.mul (jX n) k.toNat=pk n fun _=>k:=fun k=>(uO n k).symm
 show V8.mk (Nat.mul (jX n) uV.a.toNat) (Nat.mul (jX n) uV.b.toNat) (Nat.mul (jX n) uV.c.toNat) (Nat.mul (jX n) uV.d.toNat) (Nat.mul (jX n) uV.e.toNat) (Nat.mul (jX n) uV.f.toNat) (Nat.mul (jX n) uV.g.toNat) (Nat.mul (jX n) uV.h.toNat)=_
 rw [h,h,h,h,h,h,h,h]
 rfl
def Ij (n k:Nat) (W:Nat→Nat→Nat→Nat):V8:=force (Nat.div (Nat.sub (Nat.pow 2 (Nat.mul 64 n)) 1) 18446744073709551615) fun O=>force (Nat.mul O 4294967295) fun M=>W3 O M (W O M) (vh O) k
theorem uQ (n k:Nat) (W:Nat→Nat→Nat→Nat) (ms:Nat→List UInt8) (h:∀ t,t<16*k→W (jX n) (lZ n) t=pk n fun i=>wd (ms i) t):Ij n k W=uX n fun i=>fb uV (ms i) k:=by
 unfold Ij;simp only [force_eq];have h1:Nat.div (Nat.sub (Nat.pow 2 (Nat.mul 64 n)) 1) 18446744073709551615=jX n:=(W4 n).symm;have h2:Nat.mul (jX n) 4294967295=lZ n:=(Ts n).symm;rw [h1,h2,W5];exact N6 n _ ms _ k h k (aS k)
theorem mv (X:List UInt8) (j:Nat) (hj:j<4):∀ (us:List UInt32) (t:Nat),t<us.length→(us.flatMap ik++X).getD (4*t+j) 0=(ik (us.getD t 0)).getD j 0
 | u::us,0,_=>by
  rw [aU,aM,ax,List.getElem?_append_left (by show 4*0+j<4;omega),← ax,Nat.mul_zero,aC]
  rfl
 | u::us,t+1,h=>by
  rw [aU,aM,ax,List.getElem?_append_right (by show 4≤_;omega),← ax,show 4*(t+1)+j - (ik u).length=4*t+j by show 4*(t+1)+j - 4=_;omega,
   mv X j hj us t (by rw [aN] at h;omega)]
  rfl
theorem rm:∀ us:List UInt32,(us.flatMap ik).length=4*us.length
 | []=>rfl
 | u::us=>by rw [aU,aa,rm us,aN];show 4+_=_;omega
theorem rn (X:List UInt8) (us:List UInt32) (j:Nat):(us.flatMap ik++X).getD (4*us.length+j) 0=X.getD j 0:=by
 rw [ax,List.getElem?_append_right (by rw [rm];omega),rm,Nat.add_sub_cancel_left,← ax]
theorem W6 (u:UInt32):(ik u).getD 0 0=(u >>> UInt32.ofNat (Int.toNat 24)).toUInt8:=rfl
theorem W7 (u:UInt32):(ik u).getD 1 0=(u >>> UInt32.ofNat (Int.toNat 16)).toUInt8:=rfl
theorem W8 (u:UInt32):(ik u).getD 2 0=(u >>> UInt32.ofNat (Int.toNat 8)).toUInt8:=rfl
theorem W9 (u:UInt32):(ik u).getD 3 0=u.toUInt8:=rfl
def Qd (a b c:UInt8):UInt32:=((a.toUInt32 <<< UInt32.ofNat (Int.toNat 16)) ||| (b.toUInt32 <<< UInt32.ofNat (Int.toNat 8))) ||| c.toUInt32
theorem Ik {a b k:Nat} (h:b<2 ^ k):a <<< k ||| b=a*2 ^ k+b:=by rw [← Nat.shiftLeft_add_eq_or_of_lt h,Nat.shiftLeft_eq]
theorem Ju (a b c:UInt8):(Qd a b c).toNat=a.toNat*65536+b.toNat*256+c.toNat:=by
 have ha:=a.toNat_lt;have hb:=b.toNat_lt;have hc:=c.toNat_lt
 have h1:(a.toUInt32 <<< UInt32.ofNat (Int.toNat 16)).toNat=a.toNat <<< 16:=by
  show (a.toNat <<< 16) % 2 ^ 32=_
  rw [Nat.mod_eq_of_lt (by rw [Nat.shiftLeft_eq];omega)]
 have h2:(b.toUInt32 <<< UInt32.ofNat (Int.toNat 8)).toNat=b.toNat <<< 8:=by
  show (b.toNat <<< 8) % 2 ^ 32=_
  rw [Nat.mod_eq_of_lt (by rw [Nat.shiftLeft_eq];omega)]
 unfold Qd;rw [UInt32.toNat_or,UInt32.toNat_or,h1,h2,Nat.or_assoc,show c.toUInt32.toNat=c.toNat from rfl,Ik (by omega:c.toNat<2 ^ 8),Ik zo]
 omega
theorem Dw (b0 a b c:UInt8):(((b0.toUInt32 <<< UInt32.ofNat (Int.toNat 24)) ||| (a.toUInt32 <<< UInt32.ofNat (Int.toNat 16))) ||| (b.toUInt32 <<< UInt32.ofNat (Int.toNat 8))) ||| c.toUInt32=(b0.toUInt32 <<< UInt32.ofNat 24) ||| Qd a b c:=by
 unfold Qd;rw [UInt32.or_assoc,UInt32.or_assoc,UInt32.or_assoc]
 rfl
theorem Xa (u:UInt32):Qd (u >>> UInt32.ofNat (Int.toNat 24)).toUInt8 (u >>> UInt32.ofNat (Int.toNat 16)).toUInt8 (u >>> UInt32.ofNat (Int.toNat 8)).toUInt8=u >>> UInt32.ofNat 8:=by
 apply UInt32.toNat_inj.1;rw [Ju]
 show ((u.toNat >>> 24) % 256)*65536+((u.toNat >>> 16) % 256)*256+(u.toNat >>> 8) % 256=u.toNat >>> 8
 have:=u.toNat_lt;rw [Nat.shiftRight_eq_div_pow,Nat.shiftRight_eq_div_pow,Nat.shiftRight_eq_div_pow]
 omega
theorem Rg (u:UInt32):u.toUInt8.toUInt32 <<< UInt32.ofNat 24=u <<< UInt32.ofNat 24:=by
 apply UInt32.toNat_inj.1
 show ((u.toNat % 256) <<< 24) % 2 ^ 32=(u.toNat <<< 24) % 2 ^ 32
 rw [Nat.shiftLeft_eq,Nat.shiftLeft_eq]
 omega
theorem TE (τ:UInt8) (us:List UInt32) (X:List UInt8) (h:0<us.length):wd (τ::(us.flatMap ik++X)) 0=(τ.toUInt32 <<< UInt32.ofNat 24) ||| (us.getD 0 0 >>> UInt32.ofNat 8):=by
 rw [← Xa,← Dw,← W6,← W7,← W8,← mv X 0 zo us 0 h,← mv X 1 zo us 0 h,← mv X 2 zo us 0 h]
 rfl
theorem Xb (τ:UInt8) (us:List UInt32) (X:List UInt8) (t:Nat) (h:t+1<us.length):wd (τ::(us.flatMap ik++X)) (t+1)=(us.getD t 0 <<< UInt32.ofNat 24) ||| (us.getD (t+1) 0 >>> UInt32.ofNat 8):=by
 rw [← Xa,← Rg,← Dw,← W6,← W7,← W8,← W9,← mv X 0 zo us (t+1) h,← mv X 1 zo us (t+1) h,← mv X 2 zo us (t+1) h,← mv X 3 zo us t zo]
 rfl
theorem TF (τ:UInt8) (us:List UInt32) (X:List UInt8) (t:Nat) (h:us.length=t+1):wd (τ::(us.flatMap ik++X)) (t+1)=(us.getD t 0 <<< UInt32.ofNat 24) ||| Qd (X.getD 0 0) (X.getD 1 0) (X.getD 2 0):=by
 rw [← Rg,← Dw,← W9,← mv X 3 zo us t zo,← rn X us 0,← rn X us 1,← rn X us 2,h]
 rfl
theorem Qe (τ:UInt8) (us:List UInt32) (X:List UInt8) (j:Nat):wd (τ::(us.flatMap ik++X)) (us.length+(j+1))=wd (X.drop 3) j:=by
 have h:∀ x,(τ::(us.flatMap ik++X)).getD (4*(us.length+(j+1))+x) 0=(X.drop 3).getD (4*j+x) 0:=fun x=>by
  rw [show 4*(us.length+(j+1))+x=(4*us.length+(3+(4*j+x)))+1 by omega,ax,List.getElem?_cons_succ,← ax,rn];rw [ax,ax,List.getElem?_drop]
 unfold wd;have h0:=h 0;rw [Nat.add_zero,Nat.add_zero] at h0
 rw [h0,h 1,h 2,h 3]
 rfl
def TG (O M A T:Nat) (u c:Nat→Nat) (t:Nat):Nat:=match t with
 | 0=>Nat.lor (Nat.mul O A) (Nat.land (Nat.shiftRight (u 0) 8) M)
 | t+1=>cond (Nat.blt (t+1) T) (Nat.land (Nat.lor (Nat.shiftLeft (u t) 24) (Nat.shiftRight (u (t+1)) 8)) M) (cond (Nat.beq (t+1) T) (Nat.lor (Nat.land (Nat.shiftLeft (u t) 24) M) (c 0)) (c (Nat.sub (t+1) T)))
theorem N7 (O M A T:Nat) (u c:Nat→Nat):TG O M A T u c 0=(Nat.mul O A ||| ((u 0 >>> 8) &&& M)):=rfl
theorem N8 (O M A T:Nat) (u c:Nat→Nat) (t:Nat):TG O M A T u c (t+1)=cond (Nat.blt (t+1) T) (((u t <<< 24) ||| (u (t+1) >>> 8)) &&& M) (cond (Nat.beq (t+1) T) (((u t <<< 24) &&& M) ||| c 0) (c (t+1 - T))):=rfl
theorem Dx (n:Nat) (τ:UInt8) (A T J:Nat) (us:Nat→List UInt32) (X:Nat→List UInt8) (u c:Nat→Nat) (hA:A=(τ.toUInt32 <<< UInt32.ofNat 24).toNat) (hT:0<T) (hl:∀ i,(us i).length=T) (hu:∀ j,j<T→u j=pk n fun i=>(us i).getD j 0)
 (h0:c 0=pk n fun i=>Qd ((X i).getD 0 0) ((X i).getD 1 0) ((X i).getD 2 0)) (hc:∀ j,j<J→c (j+1)=pk n fun i=>wd ((X i).drop 3) j):∀ t,t<T+1+J→TG (jX n) (lZ n) A T u c t=pk n fun i=>wd (τ::((us i).flatMap ik++X i)) t
 | 0,_=>by
  have h1:Nat.mul (jX n) A=pk n fun _=>τ.toUInt32 <<< UInt32.ofNat 24:=by rw [hA];exact (uO n _).symm
  rw [N7];rw [h1,hu 0 hT,oE 8 zo,FZ];exact kK fun i=>by rw [TE _ _ _ (by rw [hl];exact hT)]
 | t+1,ht=>by
  rw [N8]
  by_cases h1:t+1<T
  ·rw [show Nat.blt (t+1) T=true by rw [Nat.blt_eq];exact h1];rw [cond_true,hu t zo,hu (t+1) h1,Nat.and_or_distrib_right,oE 8 zo,z7 n _ 24 zo,FZ];exact kK fun i=>by rw [Xb _ _ _ _ (by rw [hl];exact h1)]
  ·rw [show Nat.blt (t+1) T=false by rw [← Bool.not_eq_true,Nat.blt_eq];exact h1,cond_false]
   by_cases h2:t+1=T
   ·rw [show Nat.beq (t+1) T=true by rw [h2];exact Nat.beq_refl T];rw [cond_true,hu t zo,z7 n _ 24 zo,h0,FZ];exact kK fun i=>by rw [TF _ _ _ _ (by rw [hl];exact h2.symm)]
   ·rw [show Nat.beq (t+1) T=false by rw [← Bool.not_eq_true];exact fun h=>h2 (Nat.eq_of_beq_eq_true h)];rw [cond_false];obtain ⟨j,hj⟩:∃ j,t+1=T+(j+1):=⟨t - T,by omega⟩
    rw [hj,Nat.add_sub_cancel_left,hc j zo];exact kK fun i=>by rw [← hl i,Qe]
end Go.Bs
namespace Go.Proofs
open Go.Bs
def sS (τ:UInt8) (us:List UInt32) (X:List UInt8) (k:Nat):S8:=fb uV (τ::(us.flatMap ik++(X++mJ (1+(4*us.length+X.length))))) k
theorem F0 {τ:UInt8} {us:List UInt32} {X:List UInt8} {k:Nat} (h:1+(4*us.length+(X.length+(9+zs (1+(4*us.length+X.length)))))=64*k):sh (τ::(us.flatMap ik++X))=gW (sS τ us X k):=by
 unfold sh sS;have e:(τ::(us.flatMap ik++X)).length=1+(4*us.length+X.length):=by rw [aN,aa,rm];omega
 rw [e,TD (k:=k) (by rw [aa,e,D8];omega),List.cons_append,aM]
theorem fV (s:S8):s.list.length=8:=rfl
def kL (k:Nat):Nat:=k % 2*8+k / 2 % 2*4+k / 4 % 2*2+k / 8
def uY (s:Nat):S8:=sS 20 [] (be (s+1) 4) 1
def Oy (i:Nat):S8:=sS 10 (uY (i % 3)).list (be (kL (i % 48 / 3)) 4++[UInt8.ofNat (i / 48 / 2),UInt8.ofNat (i / 48 % 2)]) 1
def uR (i:Nat):S8:=sS 11 (Oy i).list [] 1
def Oz (r:Nat):S8:=sS 12 ((List.range 64).flatMap fun p=>(uR (p*48+r)).list) [] 33
def lN (S:Nat→S8) (m r:Nat):S8:=sS 14 ((S r).list++(S (m+r)).list) [] 2
def TH:Nat→S8:=lN Oz 24
def TI:Nat→S8:=lN TH 12
def TJ:Nat→S8:=lN TI 6
def Xc:Nat→S8:=lN TJ 3
theorem qN (s:S8):gW s=s.list.flatMap ik:=rfl
theorem F1 {s key p:Nat} (hs:s<3) (hk:key<16) (hp:p<64):fF (gW (uY s)) key (p / 2) (p % 2)=gW (Oy (p*48+(3*kL key+s))):=by
 have hr:∀ k,k<16→kL k<16∧kL (kL k)=k:=by decide
 obtain ⟨h1,h2⟩:=hr key hk;have e1:(p*48+(3*kL key+s)) % 3=s:=by omega
 have e2:(p*48+(3*kL key+s)) % 48 / 3=kL key:=by omega
 have e3:(p*48+(3*kL key+s)) / 48=p:=by omega
 unfold Oy;rw [e1,e2,e3,h2,← F0]
 ·unfold fF ei;rw [qN];simp only [List.flatten_cons,List.flatten_nil,aK]
 ·rw [fV,aa,cX,aN,aN,List.length_nil]
  decide
theorem Il {s key p:Nat} (hs:s<3) (hk:key<16) (hp:p<64):kv (gW (uY s)) key (p / 2) (p % 2)=gW (uR (p*48+(3*kL key+s))):=by
 unfold kv uR;rw [F1 hs hk hp,← F0]
 ·unfold ei;rw [qN];simp only [List.flatten_cons,List.flatten_nil,aK]
 ·rw [fV,List.length_nil]
  decide
theorem qO {α β:Type} (f:α→List β) (k:Nat) (h:∀ a,(f a).length=k):∀ l:List α,(l.flatMap f).length=k*l.length
 | []=>rfl
 | a::l=>by rw [aU,aa,h,qO f k h l,aN,Nat.mul_add,Nat.mul_one,Nat.add_comm]
theorem Lt:1+(4*(8*64)+(0+(9+zs (1+(4*(8*64)+0)))))=64*33:=by decide
theorem N9 (seed:List UInt8) (key p:Nat):jB (fun _ _=>false) seed key p=kv seed key (p / 2) (p % 2):=by
 unfold jB;exact aB Bool.false_ne_true
theorem Im {s key:Nat} (hs:s<3) (hk:key<16):∀ l:List Nat,(∀ p∈l,p<64)→l.flatMap (jB (fun _ _=>false) (gW (uY s)) key)=l.flatMap fun p=>(uR (p*48+(3*kL key+s))).list.flatMap ik:=by
 intro l
 induction l with
 | nil=>intro _;rw [List.flatMap_nil,List.flatMap_nil]
 | cons p l ih =>
  intro hl;rw [aU,aU,ih fun q hq=>hl q (aT _ hq),N9,Il hs hk (hl p List.mem_cons_self),qN (uR _)]
theorem Lu {s key:Nat} (hs:s<3) (hk:key<16):(ny (fun _ _=>false) (gW (uY s)) key).flatten=((List.range 64).flatMap fun p=>(uR (p*48+(3*kL key+s))).list).flatMap ik:=by
 unfold ny;rw [List.flatMap_assoc,← List.flatMap_def];exact Im hs hk _ fun p hp=>List.mem_range.1 hp
theorem Lv {s key:Nat} (hs:s<3) (hk:key<16):iz (gW (uY s)) key=gW (Oz (3*kL key+s)):=by
 unfold iz Oz;have h:=Lu hs hk;have hl:((List.range 64).flatMap fun p=>(uR (p*48+(3*kL key+s))).list).length=8*64:=by rw [qO _ 8 (fun _=>rfl),List.length_range]
 generalize ((List.range 64).flatMap fun p=>(uR (p*48+(3*kL key+s))).list)=us at *
 rw [← F0]
 ·unfold ei;rw [h,aK]
 ·rw [hl,List.length_nil];exact Lt
theorem rp (S:Nat→S8) (m r:Nat):ei 14 [gW (S r),gW (S (m+r))]=gW (lN S m r):=by
 unfold lN;rw [← F0]
 ·unfold ei;rw [qN,qN];simp only [List.flatten_cons,List.flatten_nil,aK,aW]
 ·rw [aa,fV,fV,List.length_nil]
  decide
theorem Oa (o:Nat→List UInt8) (n:List UInt8→List UInt8→List UInt8) (hn:∀ a b,n a b=ei 14 [a,b]):(pP ((List.range 16).map o) 4).getD 0 [] =
 n (n (n (n (o 0) (o 1)) (n (o 2) (o 3))) (n (n (o 4) (o 5)) (n (o 6) (o 7)))) (n (n (n (o 8) (o 9)) (n (o 10) (o 11))) (n (n (o 12) (o 13)) (n (o 14) (o 15)))):=by
 have h2:∀ a b r,iR (a::b::r)=n a b::iR r:=fun a b r=>by rw [hn];rfl
 have h0:iR []=[]:=rfl;have e:(List.range 16).map o=[o 0,o 1,o 2,o 3,o 4,o 5,o 6,o 7,o 8,o 9,o 10,o 11,o 12,o 13,o 14,o 15]:=rfl;rw [e];simp only [pP,h2,h0]
 rfl
theorem F2 {s:Nat} (hs:s<3):kN (gW (uY s))=gW (Xc s):=by
 have ho:∀ k k',k<16→kL k=k'→iz (gW (uY s)) k=gW (Oz (3*k'+s)):=fun k k' h e=>by rw [Lv hs h,e]
 unfold kN eW;rw [Oa _ (fun a b=>ei 14 [a,b]) (fun _ _=>rfl)]
 rw [ho 0 0 (by decide) rfl,ho 1 8 (by decide) rfl,ho 2 4 (by decide) rfl,ho 3 12 (by decide) rfl,ho 4 2 (by decide) rfl,ho 5 10 (by decide) rfl,ho 6 6 (by decide) rfl,ho 7 14 (by decide) rfl,
  ho 8 1 (by decide) rfl,ho 9 9 (by decide) rfl,ho 10 5 (by decide) rfl,ho 11 13 (by decide) rfl,ho 12 3 (by decide) rfl,ho 13 11 (by decide) rfl,ho 14 7 (by decide) rfl,ho 15 15 (by decide) rfl]
 have n3:∀ r r',r'=24+r→ei 14 [gW (Oz r),gW (Oz r')]=gW (TH r):=fun r r' h=>by rw [h];exact rp Oz 24 r
 have n4:∀ r r',r'=12+r→ei 14 [gW (TH r),gW (TH r')]=gW (TI r):=fun r r' h=>by rw [h];exact rp TH 12 r
 have n5:∀ r r',r'=6+r→ei 14 [gW (TI r),gW (TI r')]=gW (TJ r):=fun r r' h=>by rw [h];exact rp TI 6 r
 have n6:∀ r r',r'=3+r→ei 14 [gW (TJ r),gW (TJ r')]=gW (Xc r):=fun r r' h=>by rw [h];exact rp TJ 3 r
 rw [n3 (3*0+s) _ zo,n3 (3*4+s) _ zo,n3 (3*2+s) _ zo,n3 (3*6+s) _ zo,n3 (3*1+s) _ zo,n3 (3*5+s) _ zo,n3 (3*3+s) _ zo,n3 (3*7+s) _ zo,
  n4 (3*0+s) _ zo,n4 (3*2+s) _ zo,n4 (3*1+s) _ zo,n4 (3*3+s) _ zo,n5 (3*0+s) _ zo,n5 (3*1+s) _ zo,n6 (3*0+s) _ zo,Nat.mul_zero,aC]
theorem B4 (s:Nat):ei 20 [be (s+1) 4]=gW (uY s):=by
 unfold uY;rw [← F0]
 ·unfold ei;simp only [List.flatten_cons,List.flatten_nil,aK,List.flatMap_nil,List.nil_append]
 ·rw [cX,List.length_nil]
  decide
def uS (a b c d e f g h:Nat):Nat→Nat
 | 0=>a
 | 1=>b
 | 2=>c
 | 3=>d
 | 4=>e
 | 5=>f
 | 6=>g
 | _=>h
theorem qP (n:Nat) (S:Nat→S8):∀ j,j<8→uS (pk n fun i=>(S i).a) (pk n fun i=>(S i).b) (pk n fun i=>(S i).c) (pk n fun i=>(S i).d) (pk n fun i=>(S i).e) (pk n fun i=>(S i).f) (pk n fun i=>(S i).g) (pk n fun i=>(S i).h) j=pk n fun i=>(S i).list.getD j 0
 | 0,_=>rfl
 | 1,_=>rfl
 | 2,_=>rfl
 | 3,_=>rfl
 | 4,_=>rfl
 | 5,_=>rfl
 | 6,_=>rfl
 | 7,_=>rfl
 | j+8,h=>absurd h zo
def TK (O:Nat) (cs:List Nat) (j:Nat):Nat:=Nat.mul O (cs.getD j 0)
theorem sV (n:Nat) (cs:List Nat) (j:Nat) (x:UInt32) (h:x.toNat=cs.getD j 0):TK (jX n) cs j=pk n fun _=>x:=by
 unfold TK;rw [← h];exact (uO n x).symm
theorem acd (m k:Nat):uM m k=(2 ^ (64*m*k) - 1) / (2 ^ (64*m) - 1)∨m=0:=by
 rcases Nat.eq_zero_or_pos m with h0|h0
 ·exact .inr h0
 left
 have hb:2 ^ (64*m)=(2 ^ (64*m) - 1)+1:=by have:=Nat.two_pow_pos (64*m);omega
 have key:∀ k,uM m k*(2 ^ (64*m) - 1)+1=2 ^ (64*m*k):=by
  intro k
  induction k with
  | zero=>show 0*_+1=2 ^ (64*m*0);rw [Nat.zero_mul,Nat.mul_zero,Nat.pow_zero]
  | succ k ih =>
   show (1+2 ^ (64*m)*uM m k)*_+1=_
   rw [uP hb,ih,Nat.mul_add,Nat.mul_one,Nat.pow_add]
 have hp:0<2 ^ (64*m) - 1:=by
  have:2 ^ 1≤2 ^ (64*m):=Nat.pow_le_pow_right (by decide) zo
  omega
 rw [← key k,Nat.add_sub_cancel,Nat.mul_div_cancel _ hp]
def XW (f:Nat→Nat):Nat→Nat→Nat→Nat
 | 0,_,acc=>acc
 | n+1,i,acc=>force (Nat.add acc (Nat.shiftLeft (f i) (Nat.mul 64 i))) fun acc=>force (Nat.succ i) fun i=>XW f n i acc
theorem Oc (f:Nat→Nat):∀ n i acc,XW f n i acc=acc+2 ^ (64*i)*lk n fun j=>f (i+j)
 | 0,i,acc=>by show acc=acc+_*0;rw [Nat.mul_zero,Nat.add_zero]
 | n+1,i,acc=>by
  show force (Nat.add acc (Nat.shiftLeft (f i) (Nat.mul 64 i))) _=_
  rw [force_eq,force_eq,Oc f n]
  show acc+(f i <<< (64*i))+_=acc+2 ^ (64*i)*(f (i+0)+2 ^ 64*lk n fun j=>f (i+(j+1)))
  rw [Nat.shiftLeft_eq,Nat.mul_add,Nat.add_zero,← Nat.mul_assoc,← Nat.pow_add,Nat.mul_comm (f i),Nat.add_assoc,show Nat.succ i=i+1 from rfl,show 64*(i+1)=64*i+64 by omega];have:(fun j=>f (i+1+j))=fun j=>f (i+(j+1)):=funext fun j=>by rw [show i+1+j=i+(j+1) by omega]
  rw [this]
theorem Od:∀ (n:Nat) (f g:Nat→Nat),(∀ i,i<n→f i=g i)→lk n f=lk n g
 | 0,_,_,_=>rfl
 | n+1,f,g,h=>by
  rw [hF,hF,h 0 zo,Od n _ _ fun i hi=>h (i+1) zo]
theorem Jv:∀ n:Nat,lk n (fun _=>0)=0
 | 0=>rfl
 | n+1=>by rw [hF,Jv n]
theorem TL (m k:Nat) (hm:0<m) (f:Nat→UInt32):pk (k*m) (fun i=>f (i % m))=pk m f*uM m k:=NZ m (fun i=>(f i).toNat) hm k
abbrev m0 (s:Nat):List UInt8:=20::(([]:List UInt32).flatMap ik++(be (s+1) 4++mJ (1+(4*([]:List UInt32).length+(be (s+1) 4).length))))
def V0:V8:=Ij 3 1 fun _ _ t=>pk 3 fun s=>wd (m0 s) t
theorem Xd:V0=uX 3 uY:=uQ 3 1 _ m0 fun _ _=>rfl
def k9 (i:Nat):Nat:=Nat.add (Nat.add (Nat.mul (kL (Nat.div (Nat.mod i 48) 3)) 16777216) (Nat.mul (Nat.div (Nat.div i 48) 2) 65536)) (Nat.add (Nat.mul (Nat.mod (Nat.div i 48) 2) 256) 128)
def c1 (O:Nat):Nat→Nat
 | 0=>0
 | 1=>XW k9 3072 0 0
 | j=>TK O [0,0,0,0,0,0,0,312] j
def TM (n:Nat):Nat:=Nat.pow 2 (Nat.mul 64 n)
theorem TN (n:Nat):2 ^ (64*n)=TM n:=rfl
def Xe (m k:Nat):Nat:=Nat.div (Nat.sub (TM (Nat.mul m k)) 1) (Nat.sub (TM m) 1)
theorem Qf (m k:Nat) (h:0<m):Xe m k=uM m k:=by
 rcases acd m k with h1|h1
 ·rw [h1,Nat.mul_assoc];rfl
 ·omega
def V1c (a b c d e f g h:Nat):V8:=force (Xe 3 1024) fun r=>Ij 3072 1 fun O M=>TG O M 167772160 8 (fun j=>Nat.mul (uS a b c d e f g h j) r) (c1 O)
def V1 (s:V8):V8:=match s with
 | ⟨a,b,c,d,e,f,g,h⟩=>V1c a b c d e f g h
abbrev X1 (i:Nat):List UInt8:=be (kL (i % 48 / 3)) 4++[UInt8.ofNat (i / 48 / 2),UInt8.ofNat (i / 48 % 2)]
theorem Oe (b0 a b c:UInt8) (l:List UInt8):(wd (b0::a::b::c::l) 0).toNat=b0.toNat*16777216+(a.toNat*65536+b.toNat*256+c.toNat):=by
 show ((((b0.toUInt32 <<< UInt32.ofNat (Int.toNat 24)) ||| (a.toUInt32 <<< UInt32.ofNat (Int.toNat 16))) ||| (b.toUInt32 <<< UInt32.ofNat (Int.toNat 8))) ||| c.toUInt32).toNat=_
 rw [Dw,UInt32.toNat_or,Ju];have hb:=b0.toNat_lt;have h1:=a.toNat_lt;have h2:=b.toNat_lt;have h3:=c.toNat_lt
 have e:(b0.toUInt32 <<< UInt32.ofNat 24).toNat=b0.toNat <<< 24:=by
  show (b0.toNat <<< 24) % 2 ^ 32=_
  rw [Nat.mod_eq_of_lt (by rw [Nat.shiftLeft_eq];omega)]
 rw [e,Ik zo]
theorem Of (a b c d:UInt8) (l:List UInt8) (j:Nat):wd (a::b::c::d::l) (j+1)=wd l j:=by
 unfold wd;rw [show 4*(j+1)=4*j+4 by omega]
 rfl
theorem Xf:mJ 39=[128,0,0,0,0,0,0,0,0,0,0,0,0,0,0,0,0,0,0,0,0,0,0,1,56]:=by decide
theorem Xg:V1 (uX 3 uY)=uX 3072 Oy:=by
 rw [show V1 (uX 3 uY)=V1c (pk 3 fun i=>(uY i).a) (pk 3 fun i=>(uY i).b) (pk 3 fun i=>(uY i).c) (pk 3 fun i=>(uY i).d) (pk 3 fun i=>(uY i).e) (pk 3 fun i=>(uY i).f) (pk 3 fun i=>(uY i).g) (pk 3 fun i=>(uY i).h) from rfl];unfold V1c;rw [force_eq,Qf 3 1024 zo];refine uQ 3072 1 _ (fun i=>10::((uY (i % 3)).list.flatMap ik++(X1 i++mJ (1+(4*(uY (i % 3)).list.length+(X1 i).length))))) ?_;refine Dx 3072 10 _ 8 7 (fun i=>(uY (i % 3)).list) (fun i=>X1 i++mJ (1+(4*(uY (i % 3)).list.length+(X1 i).length))) _ _ (by decide) zo (fun _=>rfl) ?_ ?_ ?_
 ·intro j hj;rw [qP 3 uY j hj];exact (TL 3 1024 zo fun s=>(uY s).list.getD j 0).symm
 ·show 0=_
  refine (Jv 3072).symm.trans (Od _ _ _ fun i hi=>?_)
  have hk:kL (i % 48 / 3)<16:=by
   have:∀ k,k<16→kL k<16:=by decide
   exact this _ zo
  have h2:∀ k,k<16→(0:Nat)=(Qd (UInt8.ofNat (k / 256 ^ 3)) (UInt8.ofNat (k / 256 ^ 2)) (UInt8.ofNat (k / 256 ^ 1))).toNat:=by decide
  have hX:∀ (i:Nat) (Y:List UInt8),X1 i++Y=UInt8.ofNat (kL (i % 48 / 3) / 256 ^ 3)::UInt8.ofNat (kL (i % 48 / 3) / 256 ^ 2)::UInt8.ofNat (kL (i % 48 / 3) / 256 ^ 1)::UInt8.ofNat (kL (i % 48 / 3) / 256 ^ 0)::UInt8.ofNat (i / 48 / 2)::UInt8.ofNat (i / 48 % 2)::Y:=fun _ _=>rfl
  have hg:∀ (a b c:UInt8) (Y:List UInt8),(a::b::c::Y).getD 0 0=a∧(a::b::c::Y).getD 1 0=b∧(a::b::c::Y).getD 2 0=c:=fun _ _ _ _=>⟨rfl,rfl,rfl⟩
  show (0:Nat)=(Qd ((X1 i++_).getD 0 0) ((X1 i++_).getD 1 0) ((X1 i++_).getD 2 0)).toNat
  rw [hX,(hg _ _ _ _).1,(hg _ _ _ _).2.1,(hg _ _ _ _).2.2];exact h2 _ hk
 ·intro j hj
  have hX:∀ i,(X1 i++mJ (1+(4*(uY (i % 3)).list.length+(X1 i).length))).drop 3=UInt8.ofNat (kL (i % 48 / 3) / 256 ^ 0)::UInt8.ofNat (i / 48 / 2)::UInt8.ofNat (i / 48 % 2)::mJ 39:=fun i=>by
   rw [fV]
   rfl
  simp only [hX]
  have hs:∀ (a b c:UInt8) (j:Nat),1≤j→j<7→(wd (a::b::c::mJ 39) j).toNat=[0,0,0,0,0,0,0,312].getD (j+1) 0:=by
   intro a b c j h1 h2;obtain ⟨j,rfl⟩:∃ k,j=k+1:=⟨j - 1,by omega⟩
   have hd:∀ j,j<6→(wd [0,0,0,0,0,0,0,0,0,0,0,0,0,0,0,0,0,0,0,0,0,0,1,56] j).toNat=[0,0,0,0,0,0,0,312].getD (j+1+1) 0:=by decide
   rw [Xf,Of];exact hd j zo
  rcases Nat.eq_zero_or_pos j with rfl|h1
  ·show XW k9 3072 0 0=_
   rw [Oc,aC,Nat.mul_zero,Nat.pow_zero,Nat.one_mul];refine Od _ _ _ fun i hi=>?_
   have hk:kL (i % 48 / 3)<16:=by
    have:∀ k,k<16→kL k<16:=by decide
    exact this _ zo
   rw [aC,Xf,Oe,Nat.div_one,UInt8.toNat_ofNat_of_lt' (by show _<256;omega),UInt8.toNat_ofNat_of_lt' (by show _<256;omega),UInt8.toNat_ofNat_of_lt' (by show _<256;omega)]
   show kL (i % 48 / 3)*16777216+i / 48 / 2*65536+(i / 48 % 2*256+128)=kL (i % 48 / 3)*16777216+(i / 48 / 2*65536+i / 48 % 2*256+128)
   omega
  ·obtain ⟨j,rfl⟩:∃ k,j=k+1:=⟨j - 1,by omega⟩
   show TK (jX 3072) _ (j+1+1)=_
   rw [sV 3072 _ _ (wd (0::0::0::mJ 39) (j+1)) (hs _ _ _ _ h1 hj)];refine kK fun i=>?_
   apply UInt32.toNat_inj.1;rw [hs _ _ _ _ h1 hj,hs _ _ _ _ h1 hj]
def V2 (s:V8):V8:=match s with
 | ⟨a,b,c,d,e,f,g,h⟩=>Ij 3072 1 fun O M=>TG O M 184549376 8 (uS a b c d e f g h) (TK O [8388608,0,0,0,0,0,0,264])
theorem Xh:V2 (uX 3072 Oy)=uX 3072 uR:=by
 refine uQ 3072 1 _ (fun i=>11::((Oy i).list.flatMap ik++([]++mJ (1+(4*(Oy i).list.length+([]:List UInt8).length))))) ?_;refine Dx 3072 11 _ 8 7 (fun i=>(Oy i).list) (fun i=>[]++mJ (1+(4*(Oy i).list.length+([]:List UInt8).length))) _ _ (by decide) zo (fun _=>rfl) (qP 3072 Oy) ?_ ?_
 ·simp only [fV];exact sV 3072 _ 0 _ (by decide)
 ·intro j hj;simp only [fV];have:∀ j,j<7→(wd (([]++mJ (1+(4*8+([]:List UInt8).length))).drop 3) j).toNat=[8388608,0,0,0,0,0,0,264].getD (j+1) 0:=by decide
  exact sV 3072 _ (j+1) _ (this j hj)
def t15 (x:Nat):List Nat:=[8388608,0,0,0,0,0,0,0,0,0,0,0,0,0,0,x]
def V3c (a b c d e f g h:Nat):V8:=force (TM 48) fun q=>Ij 48 33 fun O M=>TG O M 201326592 512 (fun t=>Nat.mod (Nat.shiftRight (uS a b c d e f g h (Nat.mod t 8)) (Nat.mul 3072 (Nat.div t 8))) q) (TK O (t15 16392))
def V3 (s:V8):V8:=match s with
 | ⟨a,b,c,d,e,f,g,h⟩=>V3c a b c d e f g h
theorem Rh (F:Nat→S8) (j:Nat) (hj:j<8):∀ (l:List Nat) (p:Nat) (h:p<l.length),(l.flatMap fun q=>(F q).list).getD (8*p+j) 0=(F (l[p]'h)).list.getD j 0
 | x::l,0,_=>by
  rw [aU,ax,List.getElem?_append_left (by rw [fV];omega),← ax,Nat.mul_zero,aC]
  rfl
 | x::l,p+1,h=>by
  rw [aU,ax,List.getElem?_append_right (by rw [fV];omega),← ax,fV,show 8*(p+1)+j - 8=8*p+j by omega,Rh F j hj l p (by rw [aN] at h;omega)]
  rfl
theorem Xi:V3 (uX 3072 uR)=uX 48 Oz:=by
 have hl:∀ r,((List.range 64).flatMap fun p=>(uR (p*48+r)).list).length=512:=fun r=>by rw [qO _ 8 (fun _=>rfl),List.length_range]
 have hg:∀ r t,t<512→((List.range 64).flatMap fun p=>(uR (p*48+r)).list).getD t 0=(uR (48*(t / 8)+r)).list.getD (t % 8) 0:=fun r t ht=>by
  have h:=Rh (fun p=>uR (p*48+r)) (t % 8) zo (List.range 64) (t / 8) (by rw [List.length_range];omega);rw [show 8*(t / 8)+t % 8=t by omega,List.getElem_range,Nat.mul_comm (t / 8)] at h
  exact h
 rw [show V3 (uX 3072 uR)=V3c (pk 3072 fun i=>(uR i).a) (pk 3072 fun i=>(uR i).b) (pk 3072 fun i=>(uR i).c) (pk 3072 fun i=>(uR i).d) (pk 3072 fun i=>(uR i).e) (pk 3072 fun i=>(uR i).f) (pk 3072 fun i=>(uR i).g) (pk 3072 fun i=>(uR i).h) from rfl];unfold V3c;rw [force_eq];have e3:Oz=fun r=>fb uV (12::(((List.range 64).flatMap fun p=>(uR (p*48+r)).list).flatMap ik++([]++mJ (1+(4*((List.range 64).flatMap fun p=>(uR (p*48+r)).list).length+([]:List UInt8).length))))) 33:=rfl
 rw [e3];simp only [hl]
 generalize gF:(fun r=>(List.range 64).flatMap fun p=>(uR (p*48+r)).list)=us at *
 have Hp:∀ r,((List.range 64).flatMap fun p=>(uR (p*48+r)).list)=us r:=fun r=>congrFun gF r
 simp only [Hp] at *
 refine uQ 48 33 _ (fun r=>12::((us r).flatMap ik++([]++mJ (1+(4*512+([]:List UInt8).length))))) ?_;refine Dx 48 12 _ 512 15 us (fun r=>[]++mJ (1+(4*512+([]:List UInt8).length))) _ _ (by decide) zo hl ?_ ?_ ?_
 ·intro t ht
  show ((uS _ _ _ _ _ _ _ _ (t % 8)) >>> (3072*(t / 8))) % TM 48=_
  rw [qP 3072 uR (t % 8) zo];have h:=Tu (48*(t / 8)) 48 (3072 - 48 - 48*(t / 8)) fun i=>(uR i).list.getD (t % 8) 0
  rw [show 48*(t / 8)+(48+(3072 - 48 - 48*(t / 8)))=3072 by omega,show 64*(48*(t / 8))=3072*(t / 8) by omega,TN 48] at h
  rw [← h];exact kK fun r=>(hg r t ht).symm
 ·exact sV 48 _ 0 _ (by decide)
 ·intro j hj;have:∀ j,j<15→(wd (([]++mJ (1+(4*512+([]:List UInt8).length))).drop 3) j).toNat=(t15 16392).getD (j+1) 0:=by decide
  exact sV 48 _ (j+1) _ (this j hj)
def vNc (m a b c d e f g h:Nat):V8:=force (TM m) fun q=>Ij m 2 fun O M=>TG O M 234881024 16 (fun t=>cond (Nat.blt t 8) (Nat.mod (uS a b c d e f g h t) q) (Nat.shiftRight (uS a b c d e f g h (Nat.sub t 8)) (Nat.mul 64 m))) (TK O (t15 520))
def vN (m:Nat) (s:V8):V8:=match s with
 | ⟨a,b,c,d,e,f,g,h⟩=>vNc m a b c d e f g h
theorem Jw (S:Nat→S8) (m:Nat):vN m (uX (m+m) S)=uX m (lN S m):=by
 rw [show vN m (uX (m+m) S)=vNc m (pk (m+m) fun i=>(S i).a) (pk (m+m) fun i=>(S i).b) (pk (m+m) fun i=>(S i).c) (pk (m+m) fun i=>(S i).d) (pk (m+m) fun i=>(S i).e) (pk (m+m) fun i=>(S i).f) (pk (m+m) fun i=>(S i).g) (pk (m+m) fun i=>(S i).h) from rfl];unfold vNc;rw [force_eq];refine uQ m 2 _ (fun r=>14::(((S r).list++(S (m+r)).list).flatMap ik++([]++mJ (1+(4*((S r).list++(S (m+r)).list).length+([]:List UInt8).length))))) ?_;have hl:∀ r,((S r).list++(S (m+r)).list).length=16:=fun r=>by rw [aa,fV,fV]
 simp only [hl];refine Dx m 14 _ 16 15 (fun r=>(S r).list++(S (m+r)).list) (fun r=>[]++mJ (1+(4*16+([]:List UInt8).length))) _ _ (by decide) zo hl ?_ ?_ ?_
 ·intro t ht
  by_cases h8:t<8
  ·rw [show Nat.blt t 8=true by rw [Nat.blt_eq];exact h8,cond_true]
   show (uS _ _ _ _ _ _ _ _ t) % TM m=_
   rw [qP (m+m) S t h8];refine (Dt m m _ fun i=>lR _).symm.trans ?_;refine kK (f:=fun i=>(S i).list.getD t 0) fun r=>?_
   rw [ax,ax,List.getElem?_append_left (by rw [fV];exact h8)]
  ·rw [show Nat.blt t 8=false by rw [← Bool.not_eq_true,Nat.blt_eq];exact h8,cond_false]
   show (uS _ _ _ _ _ _ _ _ (t - 8)) >>> (64*m)=_
   rw [qP (m+m) S (t - 8) zo];refine (Du m m _ fun i=>lR _).symm.trans ?_;refine kK (f:=fun i=>(S (m+i)).list.getD (t - 8) 0) fun r=>?_
   rw [ax,ax,List.getElem?_append_right (by rw [fV];omega),fV]
 ·exact sV m _ 0 _ (by decide)
 ·intro j hj;have:∀ j,j<15→(wd (([]++mJ (1+(4*16+([]:List UInt8).length))).drop 3) j).toNat=(t15 520).getD (j+1) 0:=by decide
  exact sV m _ (j+1) _ (this j hj)
def TO:V8:=vN 3 (vN 6 (vN 12 (vN 24 (V3 (V2 (V1 V0))))))
theorem Qg:TO=uX 3 Xc:=by
 unfold TO;rw [Xd,Xg,Xh,Xi,Jw Oz 24]
 show vN 3 (vN 6 (vN 12 (uX (12+12) TH)))=_
 rw [Jw TH 12]
 show vN 3 (vN 6 (uX (6+6) TI))=_
 rw [Jw TI 6]
 show vN 3 (uX (3+3) TJ)=_
 rw [Jw TJ 3]
 rfl
theorem TP:TO.a=649475562231281127360038133599108485838446613963:=by decide +kernel
theorem Io {a b:S8} (h:gW a=gW b):a.a=b.a:=by
 have key:∀ s:S8,(wd (gW s) 0).toNat=s.a.toNat:=fun s=>by
  show (wd (_::_::_::_::_) 0).toNat=_
  rw [Oe]
  show (s.a.toNat >>> 24) % 256*16777216+((s.a.toNat >>> 16) % 256*65536+(s.a.toNat >>> 8) % 256*256+s.a.toNat % 256)=s.a.toNat
  have:=s.a.toNat_lt;rw [Nat.shiftRight_eq_div_pow,Nat.shiftRight_eq_div_pow,Nat.shiftRight_eq_div_pow]
  omega
 apply UInt32.toNat_inj.1;rw [← key a,← key b,h]
theorem pk3 (f:Nat→UInt32):pk 3 f=(f 0).toNat+2 ^ 64*((f 1).toNat+2 ^ 64*((f 2).toNat+2 ^ 64*0)):=rfl
theorem F3 {x y z:Nat} (hx:x<4294967296) (hy:y<4294967296) (hz:z<4294967296) (h:x+2 ^ 64*(y+2 ^ 64*(z+2 ^ 64*0))=649475562231281127360038133599108485838446613963):x≠y∧x≠z∧y≠z:=by omega
theorem Xj (n:Nat) (S:Nat→S8):(uX n S).a=pk n fun s=>(S s).a:=rfl
theorem Qh:pk 3 (fun s=>(Xc s).a)=649475562231281127360038133599108485838446613963:=by
 have h:=TP;rw [Qg,Xj] at h
 exact h
theorem F4 {f:Nat→Nat} (h:f 0≠f 1∧f 0≠f 2∧f 1≠f 2) {i j:Nat} (hi:i<3) (hj:j<3) (he:f i=f j):i=j:=by
 rcases (show i=0∨i=1∨i=2 by omega) with rfl|rfl|rfl<;>rcases (show j=0∨j=1∨j=2 by omega) with rfl|rfl|rfl<;>first|rfl|exact absurd he h.1|exact absurd he h.2.1|exact absurd he h.2.2|exact absurd he.symm h.1|exact absurd he.symm h.2.1|exact absurd he.symm h.2.2
theorem F5 {f:Nat→UInt32} (h:pk 3 f=649475562231281127360038133599108485838446613963) {i j:Nat} (hi:i<3) (hj:j<3) (he:f i=f j):i=j:=by
 rw [pk3] at h
 exact F4 (f:=fun s=>(f s).toNat) (F3 (fq _) (fq _) (fq _) h) hi hj (congrArg UInt32.toNat he)
theorem Lw {i j:Nat} (hi:i<3) (hj:j<3) (h:kN (ei 20 [be (i+1) 4])=kN (ei 20 [be (j+1) 4])):i=j:=by
 rw [B4 i,B4 j,F2 hi,F2 hj] at h
 exact F5 (f:=fun s=>(Xc s).a) Qh hi hj (Io h)
end Go.Proofs
namespace Go.Proofs
attribute [local irreducible] Bs.cD Bs.Do Bs.O Bs.W Bs.Fin Bs.A Bs.Ct Bs.cE Bs.Rd Bs.Sat Bs.cK Bs.Ob Bs.dE Bs.View Bs.cz Bs.Ex Bs.dI Bs.Pu Bs.eY Bs.dN Bs.dZ
open Go.Bs
open Tryz
theorem Qi (n q room size wait retry:Int):(uN n q room size wait retry).ok:=by
 have b1:=dm n 1 3 zo;have b2:=dm q 1 (within n 1 3) zo;have b3:=dm room 1 16 zo;have b4:=dm size 1 8 zo;have b5:=dm wait 0 6 zo;have b6:=dm retry 1 4 zo;have hk:(uN n q room size wait retry).k=(within n 1 3).toNat:=rfl;have hq:(uN n q room size wait retry).ey=(within q 1 (within n 1 3)).toNat:=rfl;have hr:(uN n q room size wait retry).room=(within room 1 16).toNat:=rfl;have hs:(uN n q room size wait retry).size=(within size 1 8).toNat:=rfl;have hw:(uN n q room size wait retry).wait=(within wait 0 6).toNat:=rfl;have ht:(uN n q room size wait retry).retry=(within retry 1 4).toNat:=rfl
 generalize uN n q room size wait retry=c at *
 have h13:1≤c.k∧c.k≤3:=by omega
 refine ⟨h13,by omega,⟨⟨?_,?_⟩,⟨?_,?_⟩,?_⟩,by omega,?_⟩
 ·show 1≤c.room;omega
 ·show c.room≤16;omega
 ·show 1≤c.size;omega
 ·show c.size≤8;omega
 ·show c.wait≤1000;omega
 ·have hl:(cZ c).ew.length=c.k:=lj c;have Ms:(cZ c).ey=c.ey:=rfl;refine ⟨j5 _,by rw [Ms];omega,by rw [Ms,hl];omega,by rw [hl];omega,fun w hw=>?_,?_⟩
  ·obtain ⟨i,-,rfl⟩:=aE.1 hw;exact j5 _
  ·show ((List.range c.k).map fun i=>kN (cQ (i+1))).Nodup
   refine List.Pairwise.map _ (R:=fun i j=>i≠j∧i<3∧j<3) (fun i j DC he=>DC.1 (Lw DC.2.1 DC.2.2 he)) ?_;refine List.Pairwise.imp_of_mem ?_ (List.nodup_range (n:=c.k));intro i j hi hj DC;have:=List.mem_range.1 hi;have:=List.mem_range.1 hj;exact ⟨DC,by omega,by omega⟩
def da.Qj (c:dh) (s:da) (x:It):da × Int × Int:=if x.k=10 then (s.j9 c x.to,0,0) else if x.k=12 then s.watch else s.FM c x
theorem Lx (R:List cJ) (e:World) (w:Nat) (c:dh) (m:Nat) (s:da) (ev:List (Int × Int × Int × du)) (x:It) (v:Value) (hv:db R v x.b) (hk:1≤x.k∧x.k≤12∧x.k≠11) (Rf:x.k=10→x.to≤c.k+1) (hn:x.n≤1000) (hb:x.b.length≤200) (hm:m<250) :
 Ct prog 25 #[ptr w,.agg (x.cells v).toArray] e (dM w c m s ev::R) (fun v' L'=>v'=.agg [.int .i64 (x.k:Int),.int .i64 (s.Qj c x).2.1,.int .i64 (s.Qj c x).2.2].toArray∧∃ X,(∃ jQ,XU jQ (s.Qj c x).1∧X=dM w c (m+1) (s.Qj c x).1 (ev++jQ))∧L'=X::R):=by
 unfold da.Qj
 by_cases On:x.k=10
 ·rw [aI On];refine a7 (cn (hv.cL (show cz (dM w c m s ev::R) R from zE))) fun o=>?_
  obtain ⟨k,n,to,b⟩:=x;dsimp only at hv hk Rf hn hb On ⊢
  subst On
  exact kJ R e w c m s ev 10 n to 0 v o _ (by decide) rfl _ _ _ fun R' f=>(FU R' e w c m s ev _ n 0 v o hm to (Rf rfl)).mono fun v' L' h=>by
   obtain ⟨h1,jQ,h2,h3⟩:=h;exact ⟨h1,_,⟨jQ,h2.d,rfl⟩,h3⟩
 ·rw [aB On]
  by_cases Ue:x.k=12
  ·rw [aI Ue];refine a7 (cn (hv.cL (show cz (dM w c m s ev::R) R from zE))) fun o=>?_
   obtain ⟨k,n,to,b⟩:=x;dsimp only at hv hk Rf hn hb Ue ⊢
   subst Ue
   exact kJ R e w c m s ev 12 n to 0 v o _ (by decide) rfl _ _ _ fun R' f=>(FX R' e w c m s ev _ n to 0 v o hm).mono fun v' L' h=>by
    obtain ⟨h1,h3⟩:=h;exact ⟨h1,_,⟨[],rF.nil.d,by rw [aK]⟩,h3⟩
  ·rw [aB Ue];exact z4 R e w c m s ev x v hv zo hn hb hm
structure Gj where
 kind:Int
 n:Int
 to:Int
 a:Int
 v:Int
 u:Value
 b:du
abbrev Ly (x:Int):Prop:=-9223372036854775808≤x∧x≤9223372036854775807
structure Gj.ok (x:Gj):Prop where
 kind:Ly x.kind
 n:Ly x.n
 to:Ly x.to
 a:Ly x.a
 v:Ly x.v
abbrev Gj.cells (x:Gj):List Value:=[.int .i64 x.kind,.int .i64 x.n,.int .i64 x.to,.int .i64 x.a,.int .i64 x.v,x.u]
theorem ach (x:Gj):x.cells.length=6:=rfl
def eN:List Nat:=[1,1,2,3,4,5,6,6,6,7,8,9,10,12]
def uT (x:Int):Nat:=eN.getD ((within x 0 1048576).tmod 14).toNat 0
def fN (c:dh) (x:Gj):It :=
 if uT x.kind=1 then ⟨1,0,0,if x.n.tmod 7=0 then x.b.take 40 else mR x.a x.v x.n⟩
 else if uT x.kind=2 then ⟨2,(within x.n 0 6).toNat,0,[]⟩
 else if uT x.kind=6∨uT x.kind=7∨uT x.kind=8 then ⟨uT x.kind,if 0<x.n.tmod 5 then 0 else ((within x.n 0 1048576).tmod 4).toNat,0,[]⟩
 else if uT x.kind=9 then ⟨9,(within x.n 0 6).toNat,0,[]⟩
 else if uT x.kind=10 then ⟨10,(within x.n 0 20).toNat,(within x.to 0 (c.k+1)).toNat,[]⟩
 else ⟨uT x.kind,0,0,[]⟩
theorem Jx (x:Int):∃ j:Nat,j<14∧(within x 0 1048576).tmod 14=(j:Int)∧uT x=eN.getD j 0:=by
 have h:=dm x 0 1048576 zo;refine ⟨((within x 0 1048576).tmod 14).toNat,?_,?_,rfl⟩
 ·rw [Int.tmod_eq_emod_of_nonneg h.1];omega
 ·rw [Int.tmod_eq_emod_of_nonneg h.1];omega
theorem wX {j:Nat} (h:j<14):eN.getD j 0=1∨eN.getD j 0=2∨(eN.getD j 0=6∨eN.getD j 0=7∨eN.getD j 0=8)∨eN.getD j 0=9∨eN.getD j 0=10∨(eN.getD j 0=3∨eN.getD j 0=4∨eN.getD j 0=5∨eN.getD j 0=12):=by
 have key:∀ j,j<14→eN.getD j 0=1∨eN.getD j 0=2∨(eN.getD j 0=6∨eN.getD j 0=7∨eN.getD j 0=8)∨eN.getD j 0=9∨eN.getD j 0=10∨(eN.getD j 0=3∨eN.getD j 0=4∨eN.getD j 0=5∨eN.getD j 0=12):=by decide
 exact key j h
theorem Og (c:dh) (x:Gj):(1≤(fN c x).k∧(fN c x).k≤12∧(fN c x).k≠11)∧((fN c x).k=10→(fN c x).to≤c.k+1)∧(fN c x).n≤1000∧(fN c x).b.length≤200:=by
 obtain ⟨j,hj,-,hk⟩:=Jx x.kind;have hm:=wX hj;rw [← hk] at hm
 have h1:=dm x.n 0 6 zo;have h2:=dm x.n 0 1048576 zo;have h3:=dm x.n 0 20 zo;have h4:=dm x.to 0 (c.k+1) zo;have h5:(within x.n 0 1048576).tmod 4<4:=Int.tmod_lt_of_pos _ zo
 have hs:(if x.n.tmod 7=0 then x.b.take 40 else mR x.a x.v x.n).length≤200:=by
  split
  ·rw [aF];omega
  ·exact FT _ _ _
 unfold fN
 generalize uT x.kind=κ at *
 split
 ·exact ⟨by dsimp only;omega,fun h=>by dsimp only at h;omega,aH _,hs⟩
 split
 ·exact ⟨by dsimp only;omega,fun h=>by dsimp only at h;omega,by dsimp only;omega,aH _⟩
 split
 ·rename_i h;refine ⟨by dsimp only;omega,fun h6=>?_,?_,aH _⟩
  ·dsimp only at h6;omega
  ·dsimp only;split<;>omega
 split
 ·exact ⟨by dsimp only;omega,fun h=>by dsimp only at h;omega,by dsimp only;omega,aH _⟩
 split
 ·exact ⟨by dsimp only;omega,fun _=>by dsimp only;omega,by dsimp only;omega,aH _⟩
 ·exact ⟨by dsimp only;omega,fun h6=>absurd h6 (by assumption),aH _,aH _⟩
theorem Lz (R L0:List cJ) (f0:cz R L0) (e:World) (c:dh) (Gd:c.k≤3) (x:Gj) (hx:x.ok) (hb:db L0 x.u x.b) :
 Ct prog 95 #[.agg x.cells.toArray,.agg (fX c).toArray] e R (fun v' L'=>∃ (A:cJ) (v:Value),v'=.agg (It.cells (fN c x) v).toArray∧db (A::L0) v (fN c x).b∧v.oneCell'=true∧L'=A::R):=by
 refine a7 (cn (hb.cL f0)) fun ho=>?_
 obtain ⟨q1,q2,q3,q4,q5⟩:=hx;obtain ⟨j,hj,Gb,hk⟩:=Jx x.kind;have hm:=wX hj
 have hg:nth [Value.int .i64 1,.int .i64 1,.int .i64 2,.int .i64 3,.int .i64 4,.int .i64 5,.int .i64 6,.int .i64 6,.int .i64 6,.int .i64 7,.int .i64 8,.int .i64 9,.int .i64 10,.int .i64 12] j=some (.int .i64 ((eN.getD j 0:Nat):Int)):=by
  have key:∀ j,j<14→nth [Value.int .i64 1,.int .i64 1,.int .i64 2,.int .i64 3,.int .i64 4,.int .i64 5,.int .i64 6,.int .i64 6,.int .i64 6,.int .i64 7,.int .i64 8,.int .i64 9,.int .i64 10,.int .i64 12] j=some (.int .i64 ((eN.getD j 0:Nat):Int)):=by
   intro j hj
   match j,hj with
   | 0,_=>rfl
   | 1,_=>rfl
   | 2,_=>rfl
   | 3,_=>rfl
   | 4,_=>rfl
   | 5,_=>rfl
   | 6,_=>rfl
   | 7,_=>rfl
   | 8,_=>rfl
   | 9,_=>rfl
   | 10,_=>rfl
   | 11,_=>rfl
   | 12,_=>rfl
   | 13,_=>rfl
   | j+14,h=>exact absurd h zo
  exact key j hj
 rw [← hk] at hm hg
 have w1:=dm x.n 0 6 zo;have w2:=dm x.n 0 1048576 zo;have w3:=dm x.n 0 20 zo;have w4:=dm x.to 0 (c.k+1) zo;have t4:0≤(within x.n 0 1048576).tmod 4:=Int.tmod_nonneg _ w2.1;refine bH (args:=[_,_]) func95 rfl ntmps95 results95 rfl ?_
 (repeat (refine wA ?_;intros))
 refine aZ rfl rfl (eA _ e x.kind 0 1048576 q1 zo) ?_;rintro _ _ ⟨rfl,rfl⟩;refine O.rem rfl rfl (by decide) rfl ?_;rw [Gb]
 (repeat (refine wA ?_;intros))
 refine bV rfl (bP zP (by rw [aC];exact hg)) rfl ?_;clear hg;have Qq:∀ X,cz X (Pu True::X):=fun X=>na trivial
 have LA:∀ A,db (A::L0) nY []:=fun A=>cE.nil _ 1
 rcases hm with h|h|h|h|h|h
 ·rw [h]
  (repeat (refine wA ?_;intros))
  refine aZ rfl rfl (yB _ e x.a x.v x.n q4 q5 q2) ?_;rintro _ _ ⟨ad,cc,rfl,rfl⟩
  by_cases h7:x.n.tmod 7=0
  ·have Ip:fN c x=⟨1,0,0,x.b.take 40⟩:=by unfold fN;rw [aI h,aI h7]
   rw [Ip];refine wB ?_;refine aZ rfl rfl (Mv _ e x.u x.b 40 ((hb.cL f0).cL zE) zo) ?_;rintro v' _ ⟨tG,mV,rfl⟩;refine wB ?_;apply br
   ·exact zV
   exact ⟨cS (.slice ad (mR x.a x.v x.n).length cc) (mR x.a x.v x.n)::R,zE,_,v',rfl,tG _ hb.tail,mV,rfl⟩
  ·have Ip:fN c x=⟨1,0,0,mR x.a x.v x.n⟩:=by unfold fN;rw [aI h,aB h7]
   rw [Ip];refine wB ?_;apply br
   ·exact zV
   exact ⟨cS (.slice ad (mR x.a x.v x.n).length cc) (mR x.a x.v x.n)::R,zE,_,_,rfl,bb .zero,rfl,rfl⟩
 ·obtain ⟨p,hp⟩:∃ p:Nat,within x.n 0 6=p:=⟨_,(Int.toNat_of_nonneg w1.1).symm⟩
  have Ip:fN c x=⟨2,p,0,[]⟩:=by unfold fN;rw [aB zo,aI h,hp];rfl
  rw [h,Ip]
  (repeat (refine wA ?_;intros))
  refine aZ rfl rfl (eA _ e x.n 0 6 q2 zo) ?_;rintro _ _ ⟨rfl,rfl⟩;rw [hp];refine wB ?_;apply br
  ·exact zV
  exact ⟨Pu True::R,cj (show cz _ R from zE) (Qq R),_,nY,rfl,LA _,rfl,rfl⟩
 ·obtain ⟨p,hp⟩:∃ p:Nat,(within x.n 0 1048576).tmod 4=p:=⟨_,(Int.toNat_of_nonneg t4).symm⟩
  by_cases h5:0<x.n.tmod 5
  ·have Ip:fN c x=⟨uT x.kind,0,0,[]⟩:=by unfold fN;rw [aB zo,aB zo,aI h,aI h5]
   rw [Ip];rcases h with h|h|h<;>rw [h]
   all_goals
    (repeat (refine wA ?_;intros))
    refine aZ rfl rfl (eA _ e x.n 0 1048576 q2 zo) ?_;rintro _ _ ⟨rfl,rfl⟩;refine wB ?_;apply br
    ·exact zV
    exact ⟨Pu True::R,cj (show cz _ R from zE) (Qq R),_,nY,rfl,LA _,rfl,rfl⟩
  ·have Ip:fN c x=⟨uT x.kind,p,0,[]⟩:=by unfold fN;rw [aB zo,aB zo,aI h,aB h5,hp];rfl
   rw [Ip];rcases h with h|h|h<;>rw [h]
   all_goals
    (repeat (refine wA ?_;intros))
    refine aZ rfl rfl (eA _ e x.n 0 1048576 q2 zo) ?_;rintro _ _ ⟨rfl,rfl⟩;refine O.rem rfl rfl (by decide) rfl ?_;rw [hp];refine wB ?_;apply br
    ·exact zV
    exact ⟨Pu True::R,cj (show cz _ R from zE) (Qq R),_,nY,rfl,LA _,rfl,rfl⟩
 ·obtain ⟨p,hp⟩:∃ p:Nat,within x.n 0 6=p:=⟨_,(Int.toNat_of_nonneg w1.1).symm⟩
  have Ip:fN c x=⟨9,p,0,[]⟩:=by unfold fN;rw [aB zo,aB zo,aB zo,aI h,hp];rfl
  rw [h,Ip]
  (repeat (refine wA ?_;intros))
  refine aZ rfl rfl (eA _ e x.n 0 6 q2 zo) ?_;rintro _ _ ⟨rfl,rfl⟩;rw [hp];refine wB ?_;apply br
  ·exact zV
  exact ⟨Pu True::R,cj (show cz _ R from zE) (Qq R),_,nY,rfl,LA _,rfl,rfl⟩
 ·obtain ⟨p,hp⟩:∃ p:Nat,within x.n 0 20=p:=⟨_,(Int.toNat_of_nonneg w3.1).symm⟩
  obtain ⟨r,hr⟩:∃ r:Nat,within x.to 0 (c.k+1)=r:=⟨_,(Int.toNat_of_nonneg w4.1).symm⟩
  have Ip:fN c x=⟨10,p,r,[]⟩:=by unfold fN;rw [aB zo,aB zo,aB zo,aB zo,aI h,hp,hr];rfl
  rw [h,Ip]
  (repeat (refine wA ?_;intros))
  rename_i g2 g3 g4 g6 g5;refine bk (id:=18) [11,12] (cK g2 x.cells 176 (0,0)::cK g3 (fX c) iU (0,0)::R) mixed ?_
  (refine tF 0 ?_;refine tL 1 ?_;refine tF 2 ?_;refine tL 3 ?_;refine tk 4 _ rfl (cD.kQ rfl rfl zo) ?_;refine tF 6 ?_;refine tL 7 ?_)
  refine tO 5 ?_;refine bg rfl rfl (eA _ e x.to 0 (c.k+1) q3 zo) ?_;rintro _ _ ⟨rfl,rfl⟩;rw [hr];refine ⟨fun _=>zE,?_⟩
  (refine tF 9 ?_)
  refine tO 8 ?_;refine bg rfl rfl (eA _ e x.n 0 20 q2 zo) ?_;rintro _ _ ⟨rfl,rfl⟩;rw [hp];refine ⟨fun _=>zE,?_⟩
  ((refine tO 10 ?_;refine tf ?_;refine ⟨fun _=>(by (repeat first|exact zE|exact bF|refine bh ?_|(apply bw;exact zP)|refine cz.drop ?_);done),?_⟩);(refine tO 11 ?_;refine dV (ba rfl) ?_);(refine tO 12 ?_;refine tf ?_;refine ⟨zN,?_⟩))
  refine bf zK ?_;refine wB ?_;apply br
  ·exact zV
  exact ⟨Pu True::R,cj (show cz _ R from zE) (Qq R),_,nY,rfl,LA _,rfl,rfl⟩
 ·have Ip:fN c x=⟨uT x.kind,0,0,[]⟩:=by unfold fN;rw [aB zo,aB zo,aB zo,aB zo,aB zo]
  rw [Ip];rcases h with h|h|h|h<;>rw [h]
  all_goals
   (repeat (refine wA ?_;intros))
   apply br
   ·exact zV
   exact ⟨Pu True::R,cj (show cz _ R from zE) (Qq R),_,nY,rfl,LA _,rfl,rfl⟩
theorem F6 (R L0:List cJ) (f0:cz R L0) (e:World) (c:dh) (Gd:c.k≤3) (vl:Value) (ds:List Gj) (fE:Nat) (hl:cE R 6 vl ds.length (ds.flatMap Gj.cells)) (hd:∀ x∈ds,x.ok∧db L0 x.u x.b) (hm:fE≤1000) :
 Ct prog 33 #[vl,.agg (fX c).toArray,.int .i64 (fE:Int)] e R (fun v' L'=>∃ (ts:List (It × Value)) (M:cJ) (ad:Option Addr) (k:Nat),v'=.slice ad ts.length k∧ts.map (·.1)=(ds.take fE).map (fN c)∧(∀ t∈ts,db (M::L0) t.2 t.1.b)∧L'=dE eI 5 (.slice ad ts.length k) ts.length (ts.flatMap Dn.cells)::M::R):=by
 refine a7 (hl.shape zo) ?_;rintro ⟨⟨MA,c0,rfl,-,a4,-,a6⟩,_⟩;simp only [maxLen] at a4
 refine a8 (args:=[_,_,_]) func33 rfl ntmps33 results33 rfl ?_
 (repeat (refine wA ?_;intros))
 rename_i g4;refine bq (ι:=List (It × Value) × cJ × Option Addr × Nat) (fun q=>[(0,.slice MA ds.length c0),(2,.int .i64 (fE:Int)),(4,ptr g4),(7,.slice q.2.2.1 q.1.length q.2.2.2),(8,.int .i64 (q.1.length:Int))]) (fun q=>dE eI 5 (.slice q.2.2.1 q.1.length q.2.2.2) q.1.length (q.1.flatMap Dn.cells)::q.2.1::cK g4 (fX c) iU (0,0)::R)
  (fun q=>q.1.map (·.1)=(ds.take q.1.length).map (fN c)∧(∀ t∈q.1,db (q.2.1::L0) t.2 t.1.b)∧q.1.length≤ds.length∧q.1.length≤fE) (fun q=>ds.length - q.1.length) ([],Pu True,none,0) ⟨rfl,(fun t ht=>absurd ht aP),aH _,aH _⟩ zS (cj (na trivial) (cj (dv eI 5) zE)) ?_
 rintro ⟨ts,M,ad,k⟩ ⟨fy,jw,hle,Uu⟩;dsimp only at fy jw hle Uu ⊢
 by_cases Hi:¬ (ts.length<ds.length∧ts.length<fE)
 ·have hq:ds.take ts.length=ds.take fE:=by
   by_cases h:ts.length=fE
   ·rw [h]
   ·rw [aG (show ds.length≤ts.length by omega),aG (show ds.length≤fE by omega)]
  rw [hq] at fy
  by_cases cO:ts.length<ds.length
  ·have Ql:¬ ts.length<fE:=fun h=>Hi ⟨cO,h⟩
   refine wB ?_
   all_goals exact aY (dE eI 5 (.slice ad ts.length k) ts.length (ts.flatMap Dn.cells)::M::R) rfl zE ⟨ts,M,ad,k,rfl,fy,jw,rfl⟩
  ·refine wB ?_
   all_goals exact aY (dE eI 5 (.slice ad ts.length k) ts.length (ts.flatMap Dn.cells)::M::R) rfl zE ⟨ts,M,ad,k,rfl,fy,jw,rfl⟩
 obtain ⟨cO,W1⟩:=Decidable.not_not.1 Hi;rcases a6 with a6|⟨gl,ol,rfl⟩
 ·omega
 have hg:ds[ts.length]?=some (ds[ts.length]'cO):=ab cO;obtain ⟨j1,hbx⟩:=hd _ (aA cO);have ft:ds.take (ts.length+1)=ds.take ts.length++[ds[ts.length]'cO]:=aD cO
 generalize ds[ts.length]'cO=x at hg j1 hbx ft
 have hr:dZ R gl (ol+ts.length*6) x.cells:=dZ.elem hl ach hg;refine W.cB (cn (hbx.cL (cj (show cz _ R from zE) f0))) fun o=>?_
 refine wB ?_;refine bk (id:=5) [9] (cK g4 (fX c) iU (0,0)::R) mixed ?_
 (refine tM 0 ?_;refine tM 1 ?_;refine tM 2 ?_)
 refine tk 3 _ rfl (bD rfl rfl zo) ?_;refine tk 4 _ rfl (cD.dy rfl hr.tail zX) ?_
 (refine tJ 5 ?_)
 refine tO 6 ?_;refine bg rfl rfl (Lz _ L0 (cj (show cz _ R from zE) f0) e c Gd x j1 hbx) ?_;rintro _ _ ⟨A1,v,rfl,hv,ho,rfl⟩;refine ⟨fun _=>zE,?_⟩;refine tO 7 ?_;refine bE rfl rfl (by rfl) (by rfl) zQ (by rfl) (fun g=>⟨fun _=>zE,?_⟩);refine tO 8 ?_;refine bo rfl rfl rfl (show cR _ (dE eI 5 (.slice ad ts.length k) ts.length (ts.flatMap Dn.cells)) _ from zP) (bO (n:=5) (c:=1) zP rfl zl) rfl rfl zO zm zo fun eJ c3 _=>⟨fun _=>zE,?_⟩
 ((refine tO 9 ?_;refine dV (bj rfl) ?_))
 refine bf zK ?_;have qi:(ts++[(fN c x,v)]).length=ts.length+1:=by rw [aa];rfl
 refine wB ?_;refine bi (ts++[(fN c x,v)],dI [M,A1],eJ,c3) ⟨?_,?_,?_,?_⟩ zd ?_ ?_
 ·dsimp only;rw [qi,ft,ah,ah,fy]
  rfl
 ·dsimp only;intro t ht;rcases aJ.1 ht with ht|ht
  ·exact (jw t ht).cL (cj (cT (M:=[M,A1]) (L:=L0)) zE)
  ·rw [an.1 ht];exact hv.cL (cj (cT (M:=[M,A1]) (L:=L0)) zE)
 ·dsimp only;omega
 ·dsimp only;omega
 ·dsimp only;rw [qi];exact zS
 ·dsimp only;rw [qi,aW,aU,List.flatMap_nil,aK];refine cj (show cz _ (M::A1::dE eI 5 (.slice eJ (ts.length+1) c3) (ts.length+1) (ts.flatMap Dn.cells++Dn.cells (fN c x,v))::cK g4 (fX c) iU (0,0)::R) from zE) ?_;exact cj (dR (M:=[M,A1])) zE
end Go.Proofs
namespace Go.Proofs
open Go.Bs
open Tryz
theorem Iq {W:World} {v:Value} (h:OJ prog W 70 v) :
 ∃ l:List Gj,cE [eY W] 6 v l.length (l.flatMap Gj.cells)∧∀ x∈l,x.ok∧db [eY W] x.u x.b:=by
 obtain ⟨v',css,h0,h1,h2,h3⟩:=A4 (n:=6) underlying70 zK zo (Gu underlying70 h)
 cases h0
 obtain ⟨l,rfl,h4⟩:=u4 (α:=Gj) (f:=Gj.cells) (ok:=fun a=>a.ok∧db [eY W] a.u a.b) (css:=css) fun c hc=>by
  obtain ⟨h5,h6⟩:=h3 c hc
  match c,h5 with
  | [c0,c1,c2,c3,c4,c5],_ =>
   obtain ⟨k0,e0,w0⟩:=oM underlying3 (my (i:=0) underlying176 h6 rfl zK rfl);obtain ⟨k1,e1,w1⟩:=oM underlying3 (my (i:=1) underlying176 h6 rfl zK rfl);obtain ⟨k2,e2,w2⟩:=oM underlying3 (my (i:=2) underlying176 h6 rfl zK rfl);obtain ⟨k3,e3,w3⟩:=oM underlying3 (my (i:=3) underlying176 h6 rfl zK rfl);obtain ⟨k4,e4,w4⟩:=oM underlying3 (my (i:=4) underlying176 h6 rfl zK rfl);obtain ⟨u,b,e5,w5,_⟩:=JI underlying30 underlying5 zK zK (my (i:=5) underlying176 h6 rfl zK rfl)
   cases e0;cases e1;cases e2;cases e3;cases e4;cases e5
   exact ⟨⟨k0,k1,k2,k3,k4,c5,b⟩,rfl,⟨kV w0,kV w1,kV w2,kV w3,kV w4⟩,w5⟩
 rw [ae] at h1
 rw [← List.flatMap_def] at h1
 exact ⟨l,h1,h4⟩
end Go.Proofs
namespace Go.Proofs
attribute [local irreducible] Bs.cD Bs.Do Bs.O Bs.W Bs.Fin Bs.A Bs.Ct Bs.cE Bs.Rd Bs.Sat Bs.cK Bs.Ob Bs.dE Bs.View Bs.cz Bs.Ex Bs.dI Bs.Pu Bs.eY Bs.dN Bs.dZ
open Go.Bs
open Tryz
theorem Oh {w:Nat} {c:dh} {m:Nat} {s:da} {ev:List (Int × Int × Int × du)} {L R:List cJ} (p:cR L (dM w c m s ev) R):∀ h,dN L h→s.ok c m∧ev.length≤600*m:=fun h x =>
 (jR (Tp (cj p.out (jE fun a=>jE fun M=>cj (cT (M:=[Pu (a.es.map (fun x=>(x.k,x.a,x.b,x.t))=ev),uG w c m s a M]) (L:=R)) (rW fun he=>cj (cT (M:=Pu (a.ok M w c m s)::dP w c s a M []) (L:=R)) (rW fun ha=>cj (na (p:=s.ok c m∧ev.length≤600*m) ⟨ha.st,by rw [← he,ae];exact ha.ec⟩) (show cz _ [Pu (s.ok c m∧ev.length≤600*m)] from bh bF))))) x)).1
structure vZ (us:List du) (s:da):Prop where
 len:us.length=16
 old:∀ k,us.getD k []≠[]→k<s.ls.keys
 last:∀ x,s.ls.last=some x→x.sig.idx<s.ls.keys∧(us.getD x.sig.idx []=[]∨us.getD x.sig.idx []=hO x.dc)
theorem vZ.fe {us:List du} {s t:da} (h:vZ us s) (h1:t.ls.keys=s.ls.keys) (h2:t.ls.last=s.ls.last):vZ us t:=⟨h.len,by rw [h1];exact h.old,by rw [h1,h2];exact h.last⟩
theorem vZ.iG {us:List du} {s:da} (h:vZ us s) (hk:s.ls.keys≤16) {t:da} (ht:t.ls=s.ls.iG (cQ 0)):vZ us t:=by
 unfold fM.iG at ht
 split at ht
 ·exact h.fe (by rw [ht]) (by rw [ht])
 ·split at ht
  ·rename_i cO;have Xx:(ue (cQ 0) s.ls.keys s.ls.dc).sig.idx=s.ls.keys:=rfl;refine ⟨h.len,fun k hk=>?_,fun x hx=>?_⟩
   ·have:=h.old k hk;rw [ht]
    show k<s.ls.keys+1
    omega
   ·rw [ht] at hx ⊢
    have hx:some (ue (cQ 0) s.ls.keys s.ls.dc)=some x:=hx
    cases hx
    rw [Xx];refine ⟨Nat.lt_succ_self _,.inl ?_⟩
    cases hu:us.getD s.ls.keys [] with
    | nil=>rfl
    | cons b l =>
     have:=h.old s.ls.keys (by rw [hu];exact List.cons_ne_nil _ _)
     omega
  ·exact h.fe (by rw [ht]) (by rw [ht])
theorem Jy (c:dh) (s:da) (x:fW):(s.FF c x).1.ls=s.ls:=by cases x<;>rfl
theorem vZ.do {us:List du} {c:dh} {m:Nat} {s:da} {x:It} (hs:s.ok c m) (h:vZ us s):vZ us (s.Qj c x).1:=by
 unfold da.Qj
 split
 ·unfold da.j9
  split
  ·exact ⟨h.len,h.old,fun x hx=>nomatch hx⟩
  ·split
   ·exact h.fe rfl rfl
   ·exact h
 split
 ·unfold da.watch
  split
  ·exact h
  ·split
   ·exact h
   ·exact h.fe rfl rfl
 unfold da.FM
 split
 ·exact h.fe rfl rfl
 ·exact h.fe rfl rfl
 ·unfold da.Gi;dsimp only
  split
  ·refine h.fe ?_ ?_
   ·show (s.ls.add _).keys=_
    unfold fM.add;split<;>rfl
   ·show (s.ls.add _).last=_
    unfold fM.add;split<;>rfl
  ·exact h
 ·unfold da.iG;dsimp only
  split
  ·exact h.iG hs.ls.keys rfl
  ·exact h
 ·exact h.fe rfl rfl
 ·unfold da.AI
  split
  ·exact h
  ·exact h.fe (by rw [Jy];rfl) (by rw [Jy];rfl)
 ·dsimp only
  split
  ·exact h.fe rfl rfl
  ·exact h
 ·unfold da.LL;dsimp only
  split
  ·exact h
  ·split
   ·exact h.fe rfl rfl
   ·exact h
 ·unfold da.Ox;dsimp only
  split
  ·exact h
  split
  ·exact h
  split
  ·exact h.fe rfl rfl
  ·exact h
 ·exact h
theorem vZ.put {us:List du} {s:da} (h:vZ us s) {x:jV} (hx:s.ls.last=some x) (IH:x.sig.idx<16) (hb:hO x.dc≠[]):vZ (us.set x.sig.idx (hO x.dc)) s:=by
 have Ac:x.sig.idx<us.length:=by rw [h.len];exact IH
 have hg:∀ k,(us.set x.sig.idx (hO x.dc)).getD k []=if x.sig.idx=k then hO x.dc else us.getD k []:=fun k=>by
  rw [ax,List.getElem?_set]
  split
  ·rfl
  ·rw [ax]
 refine ⟨by rw [List.length_set];exact h.len,fun k hk=>?_,fun y hy=>?_⟩
 ·rw [hg] at hk
  by_cases he:x.sig.idx=k
  ·rw [← he];exact (h.last x hx).1
  ·rw [aB he] at hk;exact h.old k hk
 ·rw [hx] at hy
  cases hy
  exact ⟨(h.last x hx).1,.inr (by rw [hg,aI rfl])⟩
abbrev wa (b:du):Value:=.string (str b)
theorem Dy (R:List cJ) (e:World) (v1:Value) (n:Int) (ds:List Gj) (hn:Ly n) (hl:cE R 6 v1 ds.length (ds.flatMap Gj.cells)) (hd:∀ x∈ds,x.ok∧db R x.u x.b) :
 Ct prog 7 #[.int .i64 n,v1] e R (fun v' L'=>v'=.bool true∧R=L'):=by
 refine a7 (hl.shape zo) ?_;rintro ⟨⟨MA,c0,rfl,-,a4,-,a6⟩,_⟩;refine a8 (args:=[_,_]) func7 rfl ntmps7 results7 rfl ?_;refine wB ?_;refine aZ rfl rfl (wW _ e n 1 8 1 0 1 hn zo zo zo zo zo) ?_;rintro _ _ ⟨rfl,rfl⟩;have hc:=Qi n 1 8 1 0 1
 generalize uN n 1 8 1 0 1=c at *
 (repeat (refine wA ?_;intros))
 rename_i g5;refine aZ rfl rfl (z5 _ e c hc) ?_;rintro _ _ ⟨w,rfl,rfl⟩;refine wB ?_;refine aZ rfl rfl (F6 _ R zE e c hc.k.2 _ ds 40 (hl.cL zE) hd zo) ?_;rintro _ _ ⟨ts,M,ad,k,rfl,fy,jw,rfl⟩
 have hle:ts.length≤40:=by
  have h:=congrArg List.length fy;rw [ae,ae,aF] at h
  omega
 have sf:∀ t∈ts,∃ x,t.1=fN c x:=fun t ht=>by
  have h1:t.1∈ts.map (·.1):=aE.2 ⟨t,ht,rfl⟩;rw [fy] at h1
  obtain ⟨x,-,h2⟩:=aE.1 h1;exact ⟨x,h2.symm⟩
 refine wB ?_;refine O.makeSlice (c:=16) rfl rfl rfl zo rfl fun g8=>?_
 rw [show List.replicate 16 (Value.string ByteArray.empty)=(List.replicate 16 ([]:du)).map wa from rfl];refine wB ?_;refine bq (ι:=Nat × da × List (Int × Int × Int × du) × List du) (fun q=>[(6,ptr w),(7,.slice ad ts.length k),(8,.slice (some ⟨g8,0,none⟩) 16 16),(9,.int .i64 (q.1:Int))]) (fun q=>dE 9 1 (.slice (some ⟨g8,0,none⟩) 16 16) 16 (q.2.2.2.map wa)::dE eI 5 (.slice ad ts.length k) ts.length (ts.flatMap Dn.cells)::M::dM w c q.1 q.2.1 q.2.2.1::R)
  (fun q=>q.1≤ts.length∧vZ q.2.2.2 q.2.1) (fun q=>ts.length - q.1) (0,pC c,[],List.replicate 16 []) ⟨aH _,rfl,(fun k hk=>?_),fun x hx=>nomatch hx⟩ zS zE ?_
 ·exact absurd (show (List.replicate 16 ([]:du)).getD k []=[] by rw [ax,List.getElem?_replicate];split<;>rfl) hk
 rintro ⟨i,s0,Xk,us⟩ ⟨hi,TQ⟩;dsimp only at hi TQ ⊢
 refine W.cB (Oh (show cR _ (dM w c i s0 Xk) _ from zP)) fun Nl=>?_
 by_cases cO:i<ts.length
 rotate_left
 ·refine wB ?_;refine aZ rfl rfl (Ii _ e) ?_;rintro _ _ ⟨rfl,rfl⟩;refine wB ?_;exact aY R rfl zE ⟨rfl,rfl⟩
 refine W.cB (fP (show cR _ (dE eI 5 (.slice ad ts.length k) ts.length (ts.flatMap Dn.cells)) _ from zP)) ?_;rintro ⟨⟨lM,k',lU,hk1,xP,h7⟩,-⟩
 cases lU
 rcases h7 with ⟨-,-,h7⟩|⟨gt,rfl⟩
 ·omega
 have hg:ts[i]?=some (ts[i]'cO):=ab cO;obtain ⟨x0,TV⟩:=sf _ (aA cO);have rI:=jw _ (aA cO)
 generalize ts[i]'cO=t at hg TV rI
 obtain ⟨hk,Rf,QX,hb⟩:=Og c x0;rw [← TV] at hk Rf QX hb
 have Vv:∀ (L R':List cJ),cR L (dE eI 5 (.slice (some ⟨gt,0,none⟩) ts.length k) ts.length (ts.flatMap Dn.cells)) R'→dZ L gt (0+i*5) (Dn.cells t):=fun L R' p=>dZ.elem (bb p) WU hg
 refine W.cB (cn (rI.cL (show cz _ (M::R) from zE))) fun o=>?_
 refine wB ?_;refine O.dy rfl (Vv _ _ zP) zX rfl ?_;refine aZ rfl rfl (Ct.at (show cR _ (dM w c i s0 Xk) _ from zP) (Lx _ e w c i s0 Xk t.1 t.2 (rI.cL zE) hk Rf QX hb zo)) ?_;rintro _ _ ⟨rfl,_,⟨jQ,IC,rfl⟩,rfl⟩;refine bm (Oh (show cR _ (dM w c (i+1) (s0.Qj c t.1).1 (Xk++jQ)) _ from zP)) fun hs=>?_
 have gF:=TQ.do Nl.1 (c:=c) (x:=t.1)
 clear TQ Nl IC
 generalize s0.Qj c t.1=y at *
 obtain ⟨s,y2⟩:=y;dsimp only at hs gF ⊢
 generalize Xk++jQ=ev at *
 refine wB ?_;refine FN (show cR _ (dM w c (i+1) s ev) _ from zP) fun a M2 ha he=>?_
 refine aZ rfl rfl (Ct.at zP (mq _ e w c s a)) ?_;rintro _ _ ⟨rfl,rfl⟩;refine aZ rfl rfl (Ct.at zP (yU _ e a.gl a.ld a.lk (cQ 0) s.ls)) ?_;rintro _ _ ⟨N,ur,up,uq,rfl,hx,rfl⟩;refine bm (cn (hx.root.cL (cG .zero))) fun o5=>?_
 refine bm (hx.sig.cL (cG .zero)).parts.one fun o6=>?_
 refine bm (hx.sig.cL (cG .zero)).path.one fun o7=>?_
 cases pH:s.ls.last with
 | none =>
  (repeat (refine wA ?_;intros))
  refine bi (i+1,s,ev,us) ⟨cO,gF⟩ zd zS ?_;exact cj (show cz _ (dP w c s a M2 (dE 9 1 (.slice (some ⟨g8,0,none⟩) 16 16) 16 (us.map wa)::dE eI 5 (.slice (some ⟨gt,0,none⟩) ts.length k) ts.length (ts.flatMap Dn.cells)::M::R)) from zE) (cj (dT ha he) zE)
 | some x =>
  have hxx:s.ls.dC=x:=by unfold fM.dC;rw [pH];rfl
  rw [hxx] at hx ⊢
  obtain ⟨r1,r2,r3⟩:=hs.1.ls.last x pH;obtain ⟨vB,hiu⟩:=gF.last x pH;have IH:=r2.1;have Ka:=hs.1.ls.keys;have nK:(hO x.dc).length=52:=ma r1;have hbn:hO x.dc≠[]:=fun q=>by rw [q] at nK;cases nK
  have yH:=gF.put pH IH hbn
  have Tq:(us.map wa)[x.sig.idx]?=some (wa (us.getD x.sig.idx [])):=by
   rw [aL,ax,ab (by rw [gF.len];exact IH)]
   rfl
  have hru:∀ (L R':List cJ),cR L (dE 9 1 (.slice (some ⟨g8,0,none⟩) 16 16) 16 (us.map wa)) R'→Rd L ⟨g8,0+x.sig.idx,none⟩ (wa (us.getD x.sig.idx [])):=fun L R' p=>(bb p).elem Tq
  have ack:(us.map wa).set x.sig.idx (wa (hO x.dc))=(us.set x.sig.idx (hO x.dc)).map wa:=by rw [List.map_set]
  generalize us.getD x.sig.idx []=u at *
  (repeat' first|refine Za ?_|refine Zb ?_|apply Zc|apply Zd|apply Ze|apply Zf|refine Zh ?_|refine Zy ?_|refine Yh fun _=>?_|refine YA ?_|apply YC|refine YN ?_|refine YR ?_|(apply O.df;exact rfl;exact zP;(first|(simp only [aC,Nat.add_zero,Nat.reduceAdd,List.drop_succ_cons,List.drop_zero,List.take_succ_cons,List.take_zero];done)|(simp only [aC,Nat.add_zero,Nat.reduceAdd,List.drop_succ_cons,List.drop_zero,List.take_succ_cons,List.take_zero];exact rfl));exact rfl;exact rfl))
  rename_i g10;refine aZ rfl rfl (sq _ e ur x.dc (hx.root.cL zE) r1) ?_;rintro _ _ ⟨T7,kb,rfl,rfl⟩
  generalize hO x.dc=bd at *
  have kM:∀ X,cz X (dP w c s a M2 (dE 9 1 (.slice (some ⟨g8,0,none⟩) 16 16) 16 ((us.map wa).set x.sig.idx (wa bd))::dE eI 5 (.slice (some ⟨gt,0,none⟩) ts.length k) ts.length (ts.flatMap Dn.cells)::M::R))→cz X (dE 9 1 (.slice (some ⟨g8,0,none⟩) 16 16) 16 ((us.set x.sig.idx bd).map wa)::dE eI 5 (.slice (some ⟨gt,0,none⟩) ts.length k) ts.length (ts.flatMap Dn.cells)::M::dM w c (i+1) s ev::R):=fun X f=>by
   rw [← ack];exact cj f (cj (dT ha he) zE)
  by_cases Gq:u=[]
  ·subst Gq;refine wB ?_;refine bV rfl (hru _ _ zP) rfl ?_;refine wB ?_;refine aZ rfl rfl (Ct.at zP (mq _ e w c s a)) ?_;rintro _ _ ⟨rfl,rfl⟩
   (repeat (refine wA ?_;intros))
   refine aZ rfl rfl (Ct.at zP (yR _ e a.gl a.ld a.lk (cQ 0) s.ls)) ?_;rintro _ _ ⟨rfl,rfl⟩;refine wB ?_;rw [aC x.sig.idx];exact bi (i+1,s,ev,us.set x.sig.idx bd) ⟨cO,yH⟩ zd zS (kM _ zE)
  ·obtain rfl:u=bd:=hiu.resolve_left Gq;refine wB ?_;refine bV rfl (hru _ _ zP) rfl ?_;refine wB ?_;refine bV rfl (hru _ _ zP) rfl ?_;refine wB ?_;refine aZ rfl rfl (Ct.at zP (mq _ e w c s a)) ?_;rintro _ _ ⟨rfl,rfl⟩
   (repeat (refine wA ?_;intros))
   refine aZ rfl rfl (Ct.at zP (yR _ e a.gl a.ld a.lk (cQ 0) s.ls)) ?_;rintro _ _ ⟨rfl,rfl⟩;refine wB ?_;rw [aC x.sig.idx];exact bi (i+1,s,ev,us.set x.sig.idx u) ⟨cO,yH⟩ zd zS (kM _ zE)
end Go.Proofs
namespace Go.Proofs.YtccekbdjebohcaaGreat.topKeys
open Go.ChangeShapes Go.WideShapes Go.ChangeAt Go.RowKit Go.Bs
set_option maxRecDepth 100000 in
theorem walk (W:World) (vs:List Value) (h:OK Tryz.prog W [3,70] vs) :
 Calls Tryz.prog 7 vs.toArray W fun e w'=>e=.returned (.bool true)∧Below W.heap.size W w':=by
 match vs,h with
 | [v0,v1],⟨h0,h1,_⟩ =>
  obtain ⟨a0,rfl,w0⟩:=L5 Tryz.underlying3 h0;obtain ⟨a1,r1,t1⟩:=Iq h1;exact Ct.calls ((Dy [eY W] W v1 a0 a1 (kV w0) r1 t1).mono fun v L' ⟨h1,h2⟩=>⟨h1,[],h2.symm⟩)
theorem own:ownKnob Tryz.prog.godebug=none:=by kernel_rfl
set_option maxRecDepth 100000 in
theorem lifted (os:Os) (started:os.Started) (H:Type) (enc:TypeId × Value→H) :
 ReturnsInHanded {} Tryz.checked os 7 .any (Rows.topKeysSpec.pre6 enc Tryz.prog Tryz.f7 Rows.topKeysRow.domain false) (Rows.topKeysSpec.post enc Tryz.prog Tryz.f7 false true false false) :=
 Gv (C:=Tryz.checked) (fn:=Tryz.f7) own started (by kernel_rfl) Tryz.func7
  (ChangeSpec.witness6 (enc:=enc) (C:=Tryz.checked) false ⟨#[],#[.int .i64 0,.slice none 0 0],[]⟩ 8 (by kernel_rfl) (by kernel_rfl) (by kernel_rfl) (by kernel_rfl))
  rfl rfl (fun ds h=>by
   rw [Tryz.params7] at h
   match ds,h with
   | [_,_],_=>rfl)
  rfl Tryz.underlying4 (by kernel_rfl) (by decide +kernel) (fun W vs h=>walk W vs (by rw [Tryz.params7] at h;exact h))
theorem jY {a b:Bool} (h:a=true) (h2:b=true):(a && b)=true:=by rw [h,h2];rfl
set_option maxHeartbeats 4000000 in
theorem closed:joinedFacts Tryz.prog 7 Tryz.f7 Rows.topKeysSpec Rows.topKeysRow=true:=by
 unfold joinedFacts;refine jY (jY (jY (jY (jY (jY (jY (jY (jY (jY (jY (jY (jY (jY (jY (jY (jY (jY (jY (jY (jY (jY (jY (jY (jY (jY (jY (jY (jY (jY (jY ?_ ?_) ?_) ?_) ?_) ?_) ?_) ?_) ?_) ?_) ?_) ?_) ?_) ?_) ?_) ?_) ?_) ?_) ?_) ?_) ?_) ?_) ?_) ?_) ?_) ?_) ?_) ?_) ?_) ?_) ?_) ?_
 all_goals (as_aux_lemma=>kernel_rfl)
theorem over:Rows.topKeysRow.holds Tryz.pinned (OpenSpec.ofChange Rows.topKeysSpec) :=
 OpenClaim.holds_of_wide 7 Tryz.f7 rfl rfl rfl rfl rfl rfl rfl ⟨rfl,rfl,rfl,rfl,rfl⟩ rfl rfl rfl rfl rfl (by kernel_rfl) Tryz.func7 closed
  (of_decide_eq_true (by kernel_rfl)) (by unfold Func.isWrapper;first|(rw [aI (by decide +kernel)];kernel_rfl)|(rw [aB (by decide +kernel)];exact ⟨rfl,rfl⟩))
  (fun os started H enc _=>lifted os started H enc)
theorem proved:Rows.TopKeysSaid:=over
#print axioms proved
end Go.Proofs.YtccekbdjebohcaaGreat.topKeys
