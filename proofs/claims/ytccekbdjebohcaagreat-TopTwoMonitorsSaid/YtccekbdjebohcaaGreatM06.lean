/- Part 6 of a proof of this: TopTwoMonitors returns true for any arguments; nothing of the old memory is turned. No condition. -/
import Derived.Test.YtccekbdjebohcaaGreatM05
set_option linter.unusedVariables false
set_option linter.unusedSimpArgs false
namespace Go.Proofs
attribute [local irreducible] Bs.cE Bs.Do Bs.O Bs.W Bs.Fin Bs.A Bs.Ct Bs.cF Bs.Rd Bs.Sat Bs.cM Bs.Ob Bs.dJ Bs.View Bs.cC Bs.Ex Bs.dI Bs.Pu Bs.eZ Bs.dK Bs.eh
open Go.Bs
open Tryz
variable (R:List cK) (e:World)
def jo (l:List dX):List UInt8:=(l.map fun a=>enc a.2).flatten
theorem vi {l:List dX} {i:Nat} (h:i<l.length):jo (l.take (i+1))=jo (l.take i)++enc (l[i]'h).2:=by
 simp only [jo];rw [aA h];simp only [ah,List.map_cons,List.map_nil,List.flatten_append,List.flatten_cons,List.flatten_nil,aK]
theorem DV (l:List dX) (i:Nat):(jo (l.take i)).length≤(jo l).length:=by
 conv=>rhs;rw [← List.take_append_drop i l]
 simp only [jo,ah,List.flatten_append,aa]
 omega
theorem Jc (g:Nat) (l:List UInt8) (v:Value) (ts:List dX) (k:Nat) (hv:cF R 1 v ts.length (ts.map (·.1))) (ht:dE R ts) (hk:k≤ts.length)
 (hl:l.length+(jo (ts.take k)).length≤140737488355328) (hs:∀ a∈ts.take k,a.2.length≤65535) (hb:∀ h:k<ts.length,65535<(ts[k]'h).2.length) :
 Ct prog 149 #[v,.func (.func 120) #[pt g] #[]] e (Writer g l::R) (fun v' L'=>v'=.bool (decide (k=ts.length))∧L'=Writer g (l++jo (ts.take k))::R):=by
 refine a7 (hv.tail.shape zo) ?_;rintro ⟨⟨ad,cap,rfl,h3,h4,h5,h6⟩,_⟩;simp only [maxLen] at h4
 refine a8 (args:=[_,_]) func149 rfl ntmps149 results149 rfl ?_;refine wB ?_;refine br (ι:=Nat) (fun i=>[(1,.func (.func 120) #[pt g] #[]),(7,.slice ad ts.length cap),(8,.int .i64 ts.length),(9,.int .i64 i)])
  (fun i=>Writer g (l++jo (ts.take i))::R) (fun i=>i≤k) (fun i=>k - i) 0 (aG _) (cD rfl (cD rfl (cD rfl (cD rfl dc)))) (by simp [jo];exact aX) ?_
 intro i hi
 by_cases cQ:i<ts.length
 ·rcases h6 with h6|⟨gl,ol,rfl⟩
  ·omega
  have kh:Rd R ⟨gl,ol+i,none⟩ (ts[i]'cQ).1:=cF.elem hv (by rw [aI,ae cQ];rfl);have ti:=ht _ (az cQ)
  by_cases xt:i<k
  ·have Wb:=hs (ts[i]'cQ) (by rw [List.mem_take_iff_getElem];exact ⟨i,by omega,rfl⟩)
   have hm:(jo (ts.take (i+1))).length≤(jo (ts.take k)).length:=by
    have:=DV (ts.take k) (i+1)
    rwa [List.take_take,Nat.min_eq_left zo] at this
   rw [vi cQ,aa,iw] at hm
   refine wB ?_;refine O.gT (us:=[_]) (ws:=[]) rfl rfl rfl (xf _ e g _ (ts[i]'cQ).2 _ ti (by rw [aa];omega) Wb) ?_;rintro _ _ ⟨rfl,rfl⟩;refine wB ?_;refine bi (i+1) xt (by show k - (i+1)<k - i;omega) (cD rfl (cD rfl (cD rfl (cD rfl dc)))) ?_;rw [vi cQ,enc];simp only [aM];exact aX
  ·have OD:i=k:=by omega
   subst OD;refine wB ?_;refine O.gT (us:=[_]) (ws:=[]) rfl rfl rfl (FH _ e g _ (ts[i]'cQ).2 _ ti (hb cQ)) ?_;rintro _ _ ⟨rfl,rfl⟩;refine wB ?_;exact aY _ rfl aX ⟨by simp [show i≠ts.length by omega];rfl,rfl⟩
 ·have OD:i=k:=by omega
  subst OD;have:i=ts.length:=by omega
  subst this;refine wB ?_;exact aY _ rfl aX ⟨by simp;rfl,rfl⟩
theorem Ga (g:Nat) (l:List UInt8) (v:Value) (ts:List dX) (k:Nat) (hv:cF R 1 v ts.length (ts.map (·.1))) (ht:dE R ts) (hk:k≤ts.length)
 (hl:l.length+(jo (ts.take k)).length≤140737488355328) (hs:∀ a∈ts.take k,a.2.length≤65535) (hb:∀ h:k<ts.length,65535<(ts[k]'h).2.length) :
 Ct prog 75 #[pt g,v] e (Writer g l::R) (fun v' L'=>v'=.bool (decide (k=ts.length))∧L'=Writer g (l++jo (ts.take k))::R):=by
 refine a8 (args:=[_,_]) func75 rfl ntmps75 results75 rfl ?_;refine wB ?_;refine aZ rfl rfl (Jc R e g l v ts k hv ht hk hl hs hb) ?_;rintro _ _ ⟨rfl,rfl⟩;refine wB ?_;exact aY _ rfl aX ⟨rfl,rfl⟩
structure fb where
 b:List UInt8
 mC:Nat
 ta:Nat
 tc:Nat
 down:Bool
def fb.ok (s:fb):Prop:=s.b.length≤1048576∧s.ta≤1048576∧s.mC≤s.b.length∧s.tc≤9223372036854775807
def Gb (g:Nat) (s:fb) (ad:Option Addr) (c:Nat):cK:=dI [cM g [.slice ad s.b.length c,.int .i64 s.mC,.int .i64 s.ta,.int .i64 s.tc,.bool s.down] 226 (0,0),cR (.slice ad s.b.length c) s.b]
def dl (g:Nat) (s:fb):cK:=Ex fun ad=>Ex fun c=>Gb g s ad c
theorem td {g:Nat} {s:fb} {R:List cK} {P:Program} {f:FuncId} {args:Array Value} {e:World} {Post:Value→List cK→Prop}
 (h:∀ ad c,Ct P f args e (cM g [.slice ad s.b.length c,.int .i64 s.mC,.int .i64 s.ta,.int .i64 s.tc,.bool s.down] 226 (0,0)::cR (.slice ad s.b.length c) s.b::R) Post):Ct P f args e (dl g s::R) Post :=
 Ct.ex .zero fun ad=>Ct.ex .zero fun c=>(h ad c).cN cW
theorem uC {g:Nat} {s:fb} {R:List cK} {P:Program} {N:Fr} {all:Array Oper} {l:List Oper} {Q:fM} {σ:Env} {e:World}
 (h:∀ ad c,O P N all l Q σ e (cM g [.slice ad s.b.length c,.int .i64 s.mC,.int .i64 s.ta,.int .i64 s.tc,.bool s.down] 226 (0,0)::cR (.slice ad s.b.length c) s.b::R)):O P N all l Q σ e (dl g s::R) :=
 O.ex .zero fun ad=>O.ex .zero fun c=>(h ad c).cN cW
theorem k7 {g c:Nat} {ad:Option Addr} {s:fb} {R:List cK}:cC (cM g [.slice ad s.b.length c,.int .i64 s.mC,.int .i64 s.ta,.int .i64 s.tc,.bool s.down] 226 (0,0)::cR (.slice ad s.b.length c) s.b::R) (dl g s::R) :=
 cn (dN (M:=[_,_])) (cn (fI (f:=fun c=>Gb g s ad c) c) (fI (f:=fun ad=>Ex fun c=>Gb g s ad c) ad))
theorem kx {g c sy li ar:Nat} {dn:Bool} {ad:Option Addr} {b:List UInt8} {R:List cK}:cC (cM g [.slice ad b.length c,.int .i64 (sy:Int),.int .i64 (li:Int),.int .i64 (ar:Int),.bool dn] 226 (0,0)::cR (.slice ad b.length c) b::R) (dl g ⟨b,sy,li,ar,dn⟩::R):=k7 (s:=⟨b,sy,li,ar,dn⟩)
theorem Jd (n:Nat) (hn:n≤1048576) :
 Ct prog 63 #[.int .i64 n] e R (fun v' L'=>∃ g,v'=.tuple #[pt g,.int .i64 0]∧L'=dl g ⟨[],0,n,0,false⟩::R):=by
 refine a8 (args:=[_]) func63 rfl ntmps63 results63 rfl ?_
 (repeat (refine wA ?_;intros))
 exact aY _ rfl ((bh (di na 1)).trans (k7 (s:=⟨[],0,n,0,false⟩))) ⟨_,rfl,rfl⟩
def fb.pow (s:fb):fb:=if s.tc > 0 then { s with tc:=s.tc - 1,down:=decide (s.tc - 1=0) } else s
theorem p4 (g:Nat) (s:fb) (h:s.ok) :
 Ct prog 224 #[pt g] e (dl g s::R) (fun v' L'=>v'=.bool (!s.pow.down)∧L'=dl g s.pow::R):=by
 obtain ⟨b,sy,li,ar,dn⟩:=s;obtain ⟨h1,h2,h3,h4⟩:=h;refine td fun ad c=>?_
 refine a8 (args:=[_]) func224 rfl ntmps224 results224 rfl ?_;dsimp only at h1 h2 h3 h4 ⊢
 match ar with
 | 0 =>
  have h0:((0:Nat):Int)=0:=rfl
  cases dn <;>
  ·refine wB ?_;exact aY _ rfl (k7 (s:=⟨b,sy,li,0,_⟩)) ⟨rfl,rfl⟩
 | 1 =>
  have h0:((1:Nat):Int)=1:=rfl;refine wB ?_;exact aY _ rfl (k7 (s:=⟨b,sy,li,0,true⟩)) ⟨rfl,rfl⟩
 | k+2 =>
  have h0:((k+2:Nat):Int) - 1=((k+1:Nat):Int):=by omega
  refine wB ?_;rw [h0];exact aY _ rfl (k7 (s:=⟨b,sy,li,k+1,false⟩)) ⟨rfl,rfl⟩
theorem fb.BY {s:fb} (h:s.ok):s.pow.ok:=by
 unfold fb.ok at *
 unfold fb.pow
 split
 ·dsimp only;omega
 ·exact h
theorem fb.HL (s:fb):s.pow.b=s.b∧s.pow.ta=s.ta∧s.pow.mC=s.mC:=by
 unfold fb.pow;split<;>exact ⟨rfl,rfl,rfl⟩
def fb.DW (s:fb) (m:List UInt8):fb:=if s.down=true∨s.ta<s.b.length+m.length then s.pow else { s.pow with b:=s.b++m }
def fb.pn (s:fb) (m:List UInt8):Int:=if s.down=true∨s.ta<s.b.length+m.length then 13 else if s.pow.down then 13 else 0
theorem BZ (g:Nat) (s:fb) (m:List UInt8) (v:Value) (h:s.ok) (hv:da R v m) (hm:m.length≤140737488351232) :
 Ct prog 227 #[pt g,v] e (dl g s::R) (fun v' L'=>v'=.int .i64 (s.pn m)∧L'=dl g (s.DW m)::R):=by
 refine a7 (cF.shape (da.tail hv) zo) ?_;rintro ⟨⟨dW,c1,rfl,g3,g4,g5,g6⟩,_⟩;have kQ:=fb.BY h;have hb:=fb.HL s;refine td fun ad c=>?_
 refine a8 (args:=[_,_]) func227 rfl ntmps227 results227 rfl ?_;refine wB ?_;refine O.fo (k7 (s:=s)) ?_;refine aZ rfl rfl (p4 R e g s h) ?_;rintro _ _ ⟨rfl,rfl⟩;clear ad c;refine uC fun ad c=>?_
 generalize hp:s.pow=p at *
 obtain ⟨b,sy,li,ar,dn⟩:=p;obtain ⟨sb,ss,sl,sa,sd⟩:=s;dsimp only at hb
 obtain ⟨rfl,rfl,rfl⟩:=hb;obtain ⟨h1,h2,h3,h4⟩:=kQ;dsimp only at h1 h2 h3 h4 ⊢
 cases sd with
 | true =>
  (repeat' first|refine Zb ?_|apply Zc|apply Zd|apply Ze|apply Zf|refine Yz ?_|apply YE|apply YF|(refine bE (id:=3) [] mixed ?_;all_goals (refine tM 0 ?_);all_goals (refine tM 1 ?_);all_goals (first|refine du 2 _ rfl (bw rfl) ?_|refine bc 2 rfl rfl zK aX rfl ?_);all_goals (first|refine du 3 _ rfl (bO rfl) ?_|refine bc 3 rfl rfl zK aX rfl ?_);all_goals (first|refine du 4 _ rfl (bw rfl) ?_|refine bc 4 rfl rfl zK aX rfl ?_);all_goals (first|refine du 5 _ rfl (bp rfl) ?_|refine bc 5 rfl rfl zK aX rfl ?_);all_goals (first|refine du 6 _ rfl (bb rfl) ?_|refine bc 6 rfl rfl zK aX rfl ?_);all_goals (first|refine du 7 _ rfl (bq rfl zR) ?_|refine bc 7 rfl rfl zK aX rfl ?_);all_goals (first|refine du 8 _ rfl (bw rfl) ?_|refine bc 8 rfl rfl zK aX rfl ?_);all_goals (first|refine du 9 _ rfl (bp rfl) ?_|refine bc 9 rfl rfl zK aX rfl ?_);all_goals (first|refine du 10 _ rfl (bb rfl) ?_|refine bc 10 rfl rfl zK aX rfl ?_);all_goals (first|refine du 11 _ rfl (bq rfl zR) ?_|refine bc 11 rfl rfl zK aX rfl ?_);all_goals (first|refine du 12 _ rfl (bO rfl) ?_|refine bc 12 rfl rfl zK aX rfl ?_);all_goals (first|refine du 13 _ rfl (cE.jL rfl rfl zo) ?_|refine bc 13 rfl rfl zK aX rfl ?_);all_goals (first|refine du 14 (.bool true) rfl (cE.iX (cE.gtr rfl rfl) zy) ?_|refine du 14 (.bool false) rfl (cE.no (cE.gtr rfl rfl) zn) ?_|refine bc 14 rfl rfl zK aX rfl ?_);all_goals (first|refine tk 15 _ rfl (bM rfl rfl) ?_|refine tk 15 _ rfl (bJ rfl rfl) ?_);all_goals (refine bf zK ?_)))
  exact aY _ rfl kx ⟨by simp [fb.pn];rfl,by simp [fb.DW,hp]⟩
 | false =>
  by_cases hl:li<b.length+m.length
  ·(repeat' first|refine Zb ?_|apply Zc|apply Zd|apply Ze|apply Zf|refine Yz ?_|apply YE|apply YF|(refine bE (id:=3) [] mixed ?_;all_goals (refine tM 0 ?_);all_goals (refine tM 1 ?_);all_goals (first|refine du 2 _ rfl (bw rfl) ?_|refine bc 2 rfl rfl zK aX rfl ?_);all_goals (first|refine du 3 _ rfl (bO rfl) ?_|refine bc 3 rfl rfl zK aX rfl ?_);all_goals (first|refine du 4 _ rfl (bw rfl) ?_|refine bc 4 rfl rfl zK aX rfl ?_);all_goals (first|refine du 5 _ rfl (bp rfl) ?_|refine bc 5 rfl rfl zK aX rfl ?_);all_goals (first|refine du 6 _ rfl (bb rfl) ?_|refine bc 6 rfl rfl zK aX rfl ?_);all_goals (first|refine du 7 _ rfl (bq rfl zR) ?_|refine bc 7 rfl rfl zK aX rfl ?_);all_goals (first|refine du 8 _ rfl (bw rfl) ?_|refine bc 8 rfl rfl zK aX rfl ?_);all_goals (first|refine du 9 _ rfl (bp rfl) ?_|refine bc 9 rfl rfl zK aX rfl ?_);all_goals (first|refine du 10 _ rfl (bb rfl) ?_|refine bc 10 rfl rfl zK aX rfl ?_);all_goals (first|refine du 11 _ rfl (bq rfl zR) ?_|refine bc 11 rfl rfl zK aX rfl ?_);all_goals (first|refine du 12 _ rfl (bO rfl) ?_|refine bc 12 rfl rfl zK aX rfl ?_);all_goals (first|refine du 13 _ rfl (cE.jL rfl rfl zo) ?_|refine bc 13 rfl rfl zK aX rfl ?_);all_goals (first|refine du 14 (.bool true) rfl (cE.iX (cE.gtr rfl rfl) zy) ?_|refine du 14 (.bool false) rfl (cE.no (cE.gtr rfl rfl) zn) ?_|refine bc 14 rfl rfl zK aX rfl ?_);all_goals (first|refine tk 15 _ rfl (bM rfl rfl) ?_|refine tk 15 _ rfl (bJ rfl rfl) ?_);all_goals (refine bf zK ?_)))
   exact aY _ rfl kx ⟨by simp [fb.pn,hl];rfl,by simp [fb.DW,hp,hl]⟩
  ·(repeat' first|refine Za ?_|refine Zb ?_|apply Zc|apply Zd|apply Ze|apply Zf|refine Zg ?_|refine Zh ?_|refine Zi ?_|refine YA ?_|apply YC|(refine bE (id:=3) [] mixed ?_;all_goals (refine tM 0 ?_);all_goals (refine tM 1 ?_);all_goals (first|refine du 2 _ rfl (bw rfl) ?_|refine bc 2 rfl rfl zK aX rfl ?_);all_goals (first|refine du 3 _ rfl (bO rfl) ?_|refine bc 3 rfl rfl zK aX rfl ?_);all_goals (first|refine du 4 _ rfl (bw rfl) ?_|refine bc 4 rfl rfl zK aX rfl ?_);all_goals (first|refine du 5 _ rfl (bp rfl) ?_|refine bc 5 rfl rfl zK aX rfl ?_);all_goals (first|refine du 6 _ rfl (bb rfl) ?_|refine bc 6 rfl rfl zK aX rfl ?_);all_goals (first|refine du 7 _ rfl (bq rfl zR) ?_|refine bc 7 rfl rfl zK aX rfl ?_);all_goals (first|refine du 8 _ rfl (bw rfl) ?_|refine bc 8 rfl rfl zK aX rfl ?_);all_goals (first|refine du 9 _ rfl (bp rfl) ?_|refine bc 9 rfl rfl zK aX rfl ?_);all_goals (first|refine du 10 _ rfl (bb rfl) ?_|refine bc 10 rfl rfl zK aX rfl ?_);all_goals (first|refine du 11 _ rfl (bq rfl zR) ?_|refine bc 11 rfl rfl zK aX rfl ?_);all_goals (first|refine du 12 _ rfl (bO rfl) ?_|refine bc 12 rfl rfl zK aX rfl ?_);all_goals (first|refine du 13 _ rfl (cE.jL rfl rfl zo) ?_|refine bc 13 rfl rfl zK aX rfl ?_);all_goals (first|refine du 14 (.bool true) rfl (cE.iX (cE.gtr rfl rfl) zy) ?_|refine du 14 (.bool false) rfl (cE.no (cE.gtr rfl rfl) zn) ?_|refine bc 14 rfl rfl zK aX rfl ?_);all_goals (first|refine tk 15 _ rfl (bM rfl rfl) ?_|refine tk 15 _ rfl (bJ rfl rfl) ?_);all_goals (refine bf zK ?_)))
   refine bD (bm rfl rfl rfl (.succ .zero) (cF.tail hv) rfl rfl jS zm zo fun lE c' lG=>?_)
   cases dn with
   | true =>
    refine wB ?_;refine aY _ rfl ?_ ⟨by simp [fb.pn,hl,hp];rfl,by simp [fb.DW,hp,hl];rfl⟩;rw [← ah,← aa];exact cn (bz (.succ .zero) aX) (k7 (s:=⟨b++m,sy,li,ar,true⟩))
   | false =>
    refine wB ?_;refine aY _ rfl ?_ ⟨by simp [fb.pn,hl,hp];rfl,by simp [fb.DW,hp,hl];rfl⟩;rw [← ah,← aa];exact cn (bz (.succ .zero) aX) (k7 (s:=⟨b++m,sy,li,ar,false⟩))
theorem fb.AI {b m:List UInt8} {sy li:Nat} (h:b.length+m.length≤li):fb.DW ⟨b,sy,li,0,false⟩ m=⟨b++m,sy,li,0,false⟩∧fb.pn ⟨b,sy,li,0,false⟩ m=0:=by
 have h1:¬ li<b.length+m.length:=by omega
 simp [fb.DW,fb.pn,fb.pow,h1]
theorem fb.Qb {s:fb} (h:s.ok) (m:List UInt8):(s.DW m).ok:=by
 have h1:=fb.BY h;have h2:=fb.HL s;unfold fb.DW
 split
 ·exact h1
 ·rename_i h3;obtain ⟨a,b,c,d⟩:=h1;refine ⟨?_,b,?_,d⟩
  ·simp only [aa];have:=h.2.1
   simp at h3;omega
  ·simp only [aa];rw [h2.1] at c;omega
def fb.NG (s:fb):fb:=if s.pow.down then s.pow else { s.pow with mC:=s.b.length }
def fb.B3 (s:fb):Int:=if s.pow.down then 13 else 0
theorem Gc (g:Nat) (s:fb) (h:s.ok) :
 Ct prog 228 #[pt g] e (dl g s::R) (fun v' L'=>v'=.int .i64 s.B3∧L'=dl g s.NG::R):=by
 have kQ:=fb.BY h;have hb:=fb.HL s;refine a8 (args:=[_]) func228 rfl ntmps228 results228 rfl ?_;refine wB ?_;refine aZ rfl rfl (p4 R e g s h) ?_;rintro _ _ ⟨rfl,rfl⟩;refine uC fun ad c=>?_
 have e1:s.NG=if s.pow.down then s.pow else { s.pow with mC:=s.b.length }:=rfl
 have e2:s.B3=if s.pow.down then 13 else 0:=rfl
 generalize hp:s.pow=p at *
 obtain ⟨b,sy,li,ar,dn⟩:=p;obtain ⟨h1,h2,h3,h4⟩:=kQ;dsimp only at h1 h2 h3 h4 hb e1 e2 ⊢
 obtain ⟨DT,_,_⟩:=hb
 cases dn with
 | true =>
  rw [e1,e2];refine wB ?_;exact aY _ rfl kx ⟨rfl,rfl⟩
 | false =>
  rw [e1,e2];refine wB ?_;refine aY _ rfl kx ⟨rfl,?_⟩;rw [← DT]
  rfl
def fb.cut (s:fb) (n:Int):fb:=if s.down∨n<0∨(s.b.length:Int)<n then s else if s.pow.down then s.pow else { s.pow with b:=s.b.take n.toNat,mC:=n.toNat }
def fb.vY (s:fb) (n:Int):Int:=if s.down then 13 else if n<0∨(s.b.length:Int)<n then 1 else if s.pow.down then 13 else 0
theorem AJ (g:Nat) (s:fb) (n:Int) (h:s.ok) :
 Ct prog 142 #[pt g,.int .i64 n] e (dl g s::R) (fun v' L'=>v'=.int .i64 (s.vY n)∧L'=dl g (s.cut n)::R):=by
 have kQ:=fb.BY h;have hb:=fb.HL s;refine td fun ad c=>?_
 refine a8 (args:=[_,_]) func142 rfl ntmps142 results142 rfl ?_;obtain ⟨b,sy,li,ar,dn⟩:=s;dsimp only at hb ⊢
 cases dn with
 | true =>
  refine wB ?_;exact aY _ rfl kx ⟨rfl,by simp [fb.cut]⟩
 | false =>
  by_cases h0:n<0
  ·refine wB ?_;exact aY _ rfl kx ⟨by simp [fb.vY,h0];rfl,by simp [fb.cut,h0]⟩
  ·by_cases hn:(b.length:Int)<n
   ·refine wB ?_;exact aY _ rfl kx ⟨by simp [fb.vY,hn];rfl,by simp [fb.cut,hn]⟩
   ·refine wB ?_;refine O.fo kx ?_;refine aZ rfl rfl (p4 R e g ⟨b,sy,li,ar,false⟩ h) ?_;rintro _ _ ⟨rfl,rfl⟩;refine uC fun ad c=>?_
    refine bo (wW (.succ .zero)) ?_;rintro ⟨_,_,hv,g1,g2⟩
    cases hv
    have e1:fb.cut ⟨b,sy,li,ar,false⟩ n=if (fb.pow ⟨b,sy,li,ar,false⟩).down then fb.pow ⟨b,sy,li,ar,false⟩ else { fb.pow ⟨b,sy,li,ar,false⟩ with b:=b.take n.toNat,mC:=n.toNat }:=by simp [fb.cut,h0,hn]
    have e2:fb.vY ⟨b,sy,li,ar,false⟩ n=if (fb.pow ⟨b,sy,li,ar,false⟩).down then 13 else 0:=by simp [fb.vY,h0,hn]
    rw [e1,e2];clear e1 e2
    generalize fb.pow ⟨b,sy,li,ar,false⟩=p at *
    obtain ⟨b1,sy1,li1,ar1,dn1⟩:=p;obtain ⟨h1,h2,h3,h4⟩:=kQ;dsimp only at h1 h2 h3 h4 hb g1 ⊢
    obtain ⟨rfl,rfl,rfl⟩:=hb;have E6:n.toNat≤b1.length:=by omega
    have Uu:n=(n.toNat:Int):=by omega
    cases dn1 with
    | true =>
     refine wB ?_;exact aY _ rfl kx ⟨rfl,rfl⟩
    | false =>
     refine wB ?_;refine aY _ rfl (cn ?_ (k7 (ad:=ad) (c:=c) (s:=⟨b1.take n.toNat,n.toNat,li1,ar1,false⟩))) ⟨rfl,rfl⟩;have e3:(b1.take n.toNat).length=n.toNat:=by rw [aE];omega
     have e4:=KO (R:=R) (ad:=ad) (c:=c) E6;dsimp only;rw [e3] at e4 ⊢
     rw [← Uu];exact bh e4
theorem DX (g:Nat) (s:fb) (h:s.ok) :
 Ct prog 139 #[pt g] e (dl g s::R) (fun v' L'=>∃ ad c,v'=.slice ad s.b.length c∧L'=cR (.slice ad s.b.length c) s.b::dl g s::R):=by
 have:=h.1;refine td fun ad c=>?_
 refine a8 (args:=[_]) func139 rfl ntmps139 results139 rfl ?_;refine wB ?_;refine aZ rfl rfl (dy _ e _ s.b (ba (.succ .zero)) zo) ?_;rintro _ _ ⟨lE,c',rfl,rfl⟩;refine wB ?_;exact aY _ rfl (bh k7) ⟨_,_,rfl,rfl⟩
end Go.Proofs
namespace Go.Proofs
open Go.Bs
def B4 (n:Nat):Nat:=4294967295 - n
theorem Lm {n:Nat} (h:n<4294967296):Go.bits .xor .u32 IntKind.u32.max (n:Int)=(B4 n:Int):=by
 unfold Go.bits B4;simp only [IntKind.bits]
 have e1:(BitVec.ofInt 32 IntKind.u32.max ^^^ BitVec.ofInt 32 (n:Int)).toNat=4294967295 - n:=by
  have h2:BitVec.ofInt 32 IntKind.u32.max=BitVec.allOnes 32:=by decide
  rw [h2,BitVec.allOnes_xor,BitVec.toNat_not,BitVec.ofInt_natCast,BitVec.toNat_ofNat,Nat.mod_eq_of_lt (show n<2 ^ 32 by omega)]
 exact (congrArg (fun z:Nat=>IntKind.u32.wrap (z:Int)) e1).trans (wrap_u32 zo zo)
theorem cE.O0 {P:Program} {N:Fr} {σ:Env} {e:World} {L:List cK} {t ty:TypeId} {x:Operand} {n:Nat} (hx:ev σ x=some (.int .u32 (n:Int))) (hn:n<4294967296):cE P N (.unOp .xor t x) ty (.int .u32 (B4 n:Int)) σ e L:=fun a w ha _ _ _ _ _=>by
 rw [← Lm hn]
 simp [execOp,ha.ev hx,Op.unary,Op.intBits,Go.bits,IntKind.signed]
theorem Ct.to {P:Program} {f:FuncId} {args:Array Value} {e:World} {L X Y:List cK} {a:Value} (h:Ct P f args e L (fun v' L'=>v'=a∧L'=Y)) (g:cC Y X):Ct P f args e L (fun v' L'=>v'=a∧L'=X) :=
 fun w hs=>(h w hs).mono fun x w' ⟨v,L',h1,h2,h4⟩=>⟨v,X,h1,⟨h2.1,rfl⟩,(h2.2 ▸ h4).cN g⟩
end Go.Proofs
namespace Go.Proofs
attribute [local irreducible] Bs.cE Bs.Do Bs.O Bs.W Bs.Fin Bs.A Bs.Ct Bs.cF Bs.Rd Bs.Sat Bs.cM Bs.Ob Bs.dJ Bs.View Bs.cC Bs.Ex Bs.dI Bs.Pu Bs.eZ Bs.dK Bs.eh
open Go.Bs
open Tryz
variable (R:List cK) (e:World)
theorem Gd (n:Nat):B4 n<4294967296:=by unfold B4;omega
def fG (m:List UInt8):List UInt8:=be m.length 4++be (B4 m.length) 4++m
theorem gJ (m:List UInt8):(fG m).length=m.length+8:=by simp [fG,cY];omega
abbrev iZ (gj gd k:Nat):cK:=cM gj [pt gd,.int .i64 (k:Int)] 233 (0,0)
theorem DY (g:Nat) (s:eY) :
 Ct prog 141 #[pt g] e (Reader g s::R) (fun v' L'=>v'=.tuple #[.int .i64 (s.num 4:Int),.bool (decide (s.num 4=B4 ((s.next 4).num 4)∧s.num 4≤65535))]∧L'=Reader g ((s.next 4).next 4)::R):=by
 have h1:s.num 4<4294967296:=sD _;have h2:(s.next 4).num 4<4294967296:=sD _;have h3:=Gd ((s.next 4).num 4);refine a8 (args:=[_]) func141 rfl ntmps141 results141 rfl ?_;refine wB ?_;refine aZ rfl rfl (qv R e g s) ?_;rintro _ _ ⟨rfl,rfl⟩
 (repeat (refine wA ?_;intros))
 refine aZ rfl rfl (qv R e g _) ?_;rintro _ _ ⟨rfl,rfl⟩
 generalize s.num 4=n at *
 generalize (s.next 4).num 4=m at *
 refine wB ?_;refine bC _ (cE.O0 rfl h2) rfl ?_
 by_cases g1:n=B4 m
 ·by_cases g2:n≤65535
  ·refine wB ?_;exact aY _ rfl aX ⟨by rw [ay ⟨g1,g2⟩];rfl,rfl⟩
  ·refine wB ?_;exact aY _ rfl aX ⟨by rw [aq (fun h=>g2 h.2)];rfl,rfl⟩
 ·refine wB ?_;exact aY _ rfl aX ⟨by rw [aq (fun h=>g1 h.1)];rfl,rfl⟩
theorem Ln (gj gd k:Nat) (s:fb) (m:List UInt8) (v:Value) (hs:s.ok) (hv:da R v m) (hm:m.length≤65535) (hk:k≤1000000000000) :
 Ct prog 152 #[pt gj,v] e (iZ gj gd k::dl gd s::R) (fun v' L'=>v'=.int .i64 (s.pn (fG m))∧L'=iZ gj gd (if s.pn (fG m)=0 then k+1 else k)::dl gd (s.DW (fG m))::R):=by
 refine a7 (hv.tail.tail.shape zo) ?_;rintro ⟨⟨ad,cap,rfl,h3,h4,h5,h6⟩,_⟩;have h1:=Gd m.length;refine a8 (args:=[_,_]) func152 rfl ntmps152 results152 rfl ?_;refine wB ?_;refine aZ rfl rfl (ji _ e) ?_;rintro _ _ ⟨gw,rfl,rfl⟩;refine wB ?_;refine aZ rfl rfl (gG _ e gw [] m.length zo (by simp)) ?_;rintro _ _ ⟨rfl,rfl⟩;refine wB ?_;refine bC _ (cE.O0 rfl zo) rfl ?_
 (repeat' first|refine Za ?_|refine Zb ?_|apply Zc|apply Zd|apply Ze|apply Zf|refine Zg ?_|refine Zh ?_|refine Zi ?_|refine Zj ?_|refine Zk ?_|refine Zq ?_|refine Zs ?_|refine Zt ?_|refine ZG ?_|refine ZH ?_|refine ZI (fun _=>?_) fun _=>?_|refine ZM ?_|refine ZN ?_|refine ZO (fun _=>?_) fun _=>?_|refine ZS ?_|refine ZY ?_|refine ZZ ?_|refine Z6 ?_|refine Z7 ?_|refine Z8 ?_|refine Yd ?_|refine Yf ?_|refine Ym ?_|refine Yz ?_|refine YA ?_|apply YC|apply YE|apply YF|refine YQ ?_|refine YR ?_|(apply O.dj;exact rfl;exact zP;(first|(simp only [aC,Nat.add_zero,Nat.reduceAdd,List.drop_succ_cons,List.drop_zero,List.take_succ_cons,List.take_zero];done)|(simp only [aC,Nat.add_zero,Nat.reduceAdd,List.drop_succ_cons,List.drop_zero,List.take_succ_cons,List.take_zero];exact rfl));exact rfl;exact rfl))
 refine aZ rfl rfl (gG _ e gw _ (B4 m.length) h1 (by simp [cY])) ?_;rintro _ _ ⟨rfl,rfl⟩;refine wB ?_;refine aZ rfl rfl (hH _ e gw _ m _ hv.tail.tail (by simp [cY];omega)) ?_;rintro _ _ ⟨rfl,rfl⟩;have Ge:[]++be m.length 4++be (B4 m.length) 4++m=fG m:=by simp [fG]
 rw [Ge];have MR:=gJ m
 generalize fG m=b at *
 refine wB ?_;refine bl (id:=8) [7] [iZ gj gd k] mixed ?_
 (refine tM 0 ?_;refine tN 1 ?_;refine tF 2 ?_;refine tL 3 ?_;refine tM 4 ?_)
 refine tO 5 ?_;refine bg rfl rfl (hI _ e gw b zo) ?_;rintro _ _ ⟨dS,c2,rfl,rfl⟩;refine ⟨fun _=>zE,?_⟩;refine tO 6 ?_;refine bg rfl rfl (Ct.at (.succ (.succ (.succ .zero))) (BZ _ e gd s b _ hs (ba .zero) zo)) ?_;rintro _ _ ⟨rfl,rfl⟩;refine ⟨fun _=>zE,?_⟩;refine tO 7 ?_;refine dV (bj rfl) ?_;refine bf zK ?_
 by_cases h0:s.pn b=0
 ·rw [aH h0];refine wB ?_;exact aY _ rfl zE ⟨rfl,rfl⟩
 ·rw [aB h0];refine wB ?_;exact aY _ rfl zE ⟨rfl,rfl⟩
theorem Gf (gj gd k:Nat) (s:fb) (hs:s.ok) :
 Ct prog 153 #[pt gj] e (iZ gj gd k::dl gd s::R) (fun v' L'=>v'=.int .i64 s.B3∧L'=iZ gj gd k::dl gd s.NG::R):=by
 refine a8 (args:=[_]) func153 rfl ntmps153 results153 rfl ?_;refine wB ?_;refine aZ rfl rfl (Ct.at (.succ .zero) (Gc _ e gd s hs)) ?_;rintro _ _ ⟨rfl,rfl⟩;refine wB ?_;exact aY _ rfl zE ⟨rfl,rfl⟩
def DZ (s:fb) (m:List UInt8):Int:=if s.pn (fG m)=0 then (s.DW (fG m)).B3 else s.pn (fG m)
def Je (s:fb) (m:List UInt8):fb:=if s.pn (fG m)=0 then (s.DW (fG m)).NG else s.DW (fG m)
def D0 (s:fb) (m:List UInt8) (k:Nat):Nat:=if s.pn (fG m)=0 then k+1 else k
abbrev Gg (gj:Nat):Value:=.func (.func 152) #[pt gj] #[]
theorem Jf (gj:Nat) (ad:Option Addr) (n c:Nat) :
 Ct prog 151 #[Gg gj,.slice ad n c] e R (fun v' L'=>∃ b1 b2 T1 T2,v'=.func (.func 226) #[] #[pt b1,pt b2]∧L'=cM b1 [Gg gj] T1 (0,0)::cM b2 [.slice ad n c] T2 (0,0)::R):=by
 refine a8 (args:=[_,_]) func151 rfl ntmps151 results151 rfl ?_
 (repeat (refine wA ?_;intros))
 rename_i b1 b2;exact aY _ rfl (show cC _ (cM b1 [Gg gj] _ (0,0)::cM b2 [.slice ad n c] _ (0,0)::R) from zE) ⟨b1,b2,_,_,rfl,rfl⟩
theorem Lo (gj gd k b1 b2 T1 T2:Nat) (s:fb) (m:List UInt8) (ad:Option Addr) (n c:Nat) (hs:s.ok) (hv:da R (.slice ad n c) m) (hm:m.length≤65535) (hk:k≤1000000000000) :
 Ct prog 226 #[pt b1,pt b2] e (iZ gj gd k::dl gd s::cM b1 [Gg gj] T1 (0,0)::cM b2 [.slice ad n c] T2 (0,0)::R) (fun v' L'=>v'=.int .i64 (s.pn (fG m))∧L'=iZ gj gd (D0 s m k)::dl gd (s.DW (fG m))::cM b1 [Gg gj] T1 (0,0)::cM b2 [.slice ad n c] T2 (0,0)::R):=by
 refine a8 (args:=[_,_]) func226 rfl ntmps226 results226 rfl ?_;refine wB ?_;refine O.gT (us:=[_]) (ws:=[]) rfl rfl rfl (Ln _ e gj gd k s m _ hs hv.tail.tail hm hk) ?_;rintro _ _ ⟨rfl,rfl⟩;refine wB ?_;exact aY _ rfl aX ⟨rfl,rfl⟩
abbrev za (b1 b2:Nat):Value:=.func (.func 226) #[] #[pt b1,pt b2]
abbrev zc (gj:Nat):Value:=.func (.func 153) #[pt gj] #[]
theorem Gh (gj gd k k2 gs b1 b2 T:Nat) (s s2:fb) (e1:Int) (kY:s2.ok)
 (h1:Ct prog 226 #[pt b1,pt b2] e (iZ gj gd k::dl gd s::cM gs [za b1 b2,zc gj] T (0,0)::R) (fun v' L'=>v'=.int .i64 e1∧L'=iZ gj gd k2::dl gd s2::cM gs [za b1 b2,zc gj] T (0,0)::R)) :
 Ct prog 150 #[.slice (some ⟨gs,0,none⟩) 2 2] e (iZ gj gd k::dl gd s::cM gs [za b1 b2,zc gj] T (0,0)::R) (fun v' L'=>v'=.int .i64 (if e1=0 then s2.B3 else e1)∧L'=iZ gj gd k2::dl gd (if e1=0 then s2.NG else s2)::R):=by
 refine a8 (args:=[_]) func150 rfl ntmps150 results150 rfl ?_;refine wB ?_;refine br (ι:=Nat) (fun i=>[(6,.slice (some ⟨gs,0,none⟩) 2 2),(7,.int .i64 2),(8,.int .i64 (i:Int))]) (fun i=>if i=0 then iZ gj gd k::dl gd s::cM gs [za b1 b2,zc gj] T (0,0)::R else if i=1 then iZ gj gd k2::dl gd s2::cM gs [za b1 b2,zc gj] T (0,0)::R else iZ gj gd k2::dl gd s2.NG::R) (fun i=>i≤2∧(0<i→e1=0)∧(1<i→s2.B3=0)) (fun i=>2 - i) 0 ⟨by omega,by omega,by omega⟩ (cD rfl (cD rfl (cD rfl dc))) (by rw [aH rfl];exact aX) ?_;rintro i ⟨hi,S9,MV⟩;rcases (show i=0∨i=1∨i=2 by omega) with rfl|rfl|rfl
 ·rw [aH rfl];have hr:Rd (iZ gj gd k::dl gd s::cM gs [za b1 b2,zc gj] T (0,0)::R) ⟨gs,0+0,none⟩ (za b1 b2):=(bR .zero rfl).tail.tail;refine wB ?_;refine O.gT (us:=[]) (ws:=[_,_]) rfl rfl rfl h1 ?_;rintro _ _ ⟨rfl,rfl⟩
  by_cases h0:e1=0
  ·refine wB ?_;exact bi 1 ⟨by omega,fun _=>h0,by omega⟩ zo (cD rfl (cD rfl (cD rfl dc))) (by rw [aB (show ¬ (1:Nat)=0 by omega),aH (show (1:Nat)=1 from rfl)];exact zE)
  ·rw [aB h0,aB h0];refine wB ?_;exact aY _ rfl zE ⟨rfl,rfl⟩
 ·rw [aB (show ¬ (1:Nat)=0 by omega),aH (show (1:Nat)=1 from rfl)];have h0:=S9 zo;have hr:Rd (iZ gj gd k2::dl gd s2::cM gs [za b1 b2,zc gj] T (0,0)::R) ⟨gs,0+1,none⟩ (zc gj):=(bR .zero rfl).tail.tail;refine wB ?_;refine O.gT (us:=[_]) (ws:=[]) rfl rfl rfl (Gf _ e gj gd k2 s2 kY) ?_;rintro _ _ ⟨rfl,rfl⟩
  by_cases h3:s2.B3=0
  ·refine wB ?_;exact bi 2 ⟨by omega,fun _=>h0,fun _=>h3⟩ zo (cD rfl (cD rfl (cD rfl dc))) (by rw [aB (show ¬ (2:Nat)=0 by omega),aB (show ¬ (2:Nat)=1 by omega)];exact zE)
  ·rw [aH h0,aH h0];refine wB ?_;exact aY _ rfl zE ⟨rfl,rfl⟩
 ·rw [aB (show ¬ (2:Nat)=0 by omega),aB (show ¬ (2:Nat)=1 by omega),aH (S9 zo),aH (S9 zo),MV zo];refine wB ?_;exact aY _ rfl zE ⟨rfl,rfl⟩
theorem nL (gj gd k:Nat) (s:fb) (m:List UInt8) (v:Value) (hs:s.ok) (hv:da R v m) (hm:m.length≤65535) (hk:k≤1000000000000) :
 Ct prog 76 #[pt gj,v] e (iZ gj gd k::dl gd s::R) (fun v' L'=>v'=.int .i64 (DZ s m)∧L'=iZ gj gd (D0 s m k)::dl gd (Je s m)::R):=by
 refine a7 (hv.tail.tail.shape zo) ?_;rintro ⟨⟨ad,cap,rfl,h3,h4,h5,h6⟩,_⟩;refine a8 (args:=[_,_]) func76 rfl ntmps76 results76 rfl ?_;refine wB ?_;refine aZ rfl rfl (Jf _ e gj ad m.length cap) ?_;rintro _ _ ⟨b1,b2,T1,T2,rfl,rfl⟩
 (repeat (refine wA ?_;intros))
 rename_i gs;refine O.fo (show cC _ (iZ gj gd k::dl gd s::cM gs [za b1 b2,zc gj] _ (0,0)::cM b1 [Gg gj] T1 (0,0)::cM b2 [.slice ad m.length cap] T2 (0,0)::R) from zE) ?_;refine aZ rfl rfl (Gh (cM b1 [Gg gj] T1 (0,0)::cM b2 [.slice ad m.length cap] T2 (0,0)::R) e gj gd k (D0 s m k) gs b1 b2 _ s (s.DW (fG m)) (s.pn (fG m)) (fb.Qb hs _) ?_) ?_
 ·exact Ct.to (Ct.cN (Lo (cM gs [za b1 b2,zc gj] _ (0,0)::R) e gj gd k b1 b2 T1 T2 s m ad m.length cap hs hv.tail hm hk) zE) zE
 rintro _ _ ⟨rfl,rfl⟩;refine wB ?_;exact aY _ rfl zE ⟨rfl,rfl⟩
end Go.Proofs
namespace Go.Proofs
open Go.Bs
def lK (b:List UInt8):Nat:=numOf (b.take 4)
def C2 (b:List UInt8):Nat:=numOf ((b.drop 4).take 4)
def oF (b:List UInt8):Prop:=lK b=B4 (C2 b)∧lK b≤65535
instance (b:List UInt8):Decidable (oF b):=inferInstanceAs (Decidable (_∧_))
def dz (b:List UInt8):List (List UInt8) × Nat × Bool :=
 if h:b.length<8 then ([],0,true)
 else if oF b then
  (if b.length - 8<lK b then ([],0,true)
  else ((b.drop 8).take (lK b)::(dz (b.drop (8+lK b))).1,8+lK b+(dz (b.drop (8+lK b))).2.1,(dz (b.drop (8+lK b))).2.2))
 else ([],0,false)
 termination_by b.length
 decreasing_by all_goals (rw [aP];omega)
theorem m1 {b:List UInt8} (h:b.length<8):dz b=([],0,true):=by rw [dz,dif_pos h]
theorem AK {b:List UInt8} (h:¬ b.length<8) (h2:¬ oF b):dz b=([],0,false):=by rw [dz,dif_neg h,aB h2]
theorem xL {b:List UInt8} (h:¬ b.length<8) (h2:oF b) (h3:b.length - 8<lK b):dz b=([],0,true):=by rw [dz,dif_neg h,aH h2,aH h3]
theorem rO {b:List UInt8} (h:¬ b.length<8) (h2:oF b) (h3:¬ b.length - 8<lK b):dz b=((b.drop 8).take (lK b)::(dz (b.drop (8+lK b))).1,8+lK b+(dz (b.drop (8+lK b))).2.1,(dz (b.drop (8+lK b))).2.2):=by
 rw [dz,dif_neg h,aH h2,aB h3]
theorem Wc {b:List UInt8} (h:¬ b.length<8):eY.num ⟨b,false⟩ 4=lK b∧eY.next ⟨b,false⟩ 4=⟨b.drop 4,false⟩∧eY.num ⟨b.drop 4,false⟩ 4=C2 b∧eY.next ⟨b.drop 4,false⟩ 4=⟨b.drop 8,false⟩:=by
 have f1:eY.fits ⟨b,false⟩ 4=true:=by simp [eY.fits];omega
 have f2:eY.fits ⟨b.drop 4,false⟩ 4=true:=by simp [eY.fits];omega
 refine ⟨?_,?_,?_,?_⟩
 ·unfold eY.num eY.take lK;rw [aH f1];rfl
 ·unfold eY.next;rw [aH f1];rfl
 ·unfold eY.num eY.take C2;rw [aH f2];rfl
 ·unfold eY.next;rw [aH f2,List.drop_drop];rfl
theorem Wd {b:List UInt8} {n:Nat} (h:n≤b.length):eY.take ⟨b,false⟩ (n:Int)=b.take n∧eY.next ⟨b,false⟩ (n:Int)=⟨b.drop n,false⟩:=by
 have f1:eY.fits ⟨b,false⟩ (n:Int)=true:=by simp [eY.fits];omega
 refine ⟨?_,?_⟩
 ·unfold eY.take;rw [aH f1];rfl
 ·unfold eY.next;rw [aH f1];rfl
def xM (b:List UInt8) (k:Nat) (out:List (List UInt8)):Prop:=k≤b.length∧out.length≤k∧dz b=(out++(dz (b.drop k)).1,k+(dz (b.drop k)).2.1,(dz (b.drop k)).2.2)
theorem B5 (b:List UInt8):xM b 0 []:=⟨aG _,aT _,by simp⟩
theorem Gi {b:List UInt8} {k:Nat} {out:List (List UInt8)} {ok:Bool} (h:xM b k out) (h2:dz (b.drop k)=([],0,ok)):dz b=(out,k,ok):=by rw [h.2.2,h2];simp
theorem D1 {b:List UInt8} {k:Nat} {out:List (List UInt8)} (h:xM b k out) (h1:¬ (b.drop k).length<8) (h2:oF (b.drop k)) (h3:¬ (b.drop k).length - 8<lK (b.drop k)) :
 xM b (k+(8+lK (b.drop k))) (out++[((b.drop k).drop 8).take (lK (b.drop k))]):=by
 obtain ⟨a1,a2,a3⟩:=h;have hn:=rO h1 h2 h3;rw [aP] at h1 h3
 refine ⟨by omega,by simp;omega,?_⟩;rw [a3,hn,show b.drop (k+(8+lK (b.drop k)))=(b.drop k).drop (8+lK (b.drop k)) from List.drop_drop.symm];simp only [aM,List.singleton_append,Nat.add_assoc]
theorem Lq (b:List UInt8):(dz b).2.1≤b.length:=by
 generalize hn:b.length=n
 induction n using Nat.strongRecOn generalizing b with
 | _ n ih =>
  by_cases h:b.length<8
  ·rw [m1 h];exact aG _
  ·by_cases h2:oF b
   ·by_cases h3:b.length - 8<lK b
    ·rw [xL h h2 h3];exact aG _
    ·rw [rO h h2 h3];have:=ih (b.drop (8+lK b)).length (by rw [aP];omega) (b.drop (8+lK b)) rfl;rw [aP] at this
     show 8+lK b+_≤n
     omega
   ·rw [AK h h2];exact aG _
def ni (l:List dX):cK:=dI (l.map fun a=>cR a.1 a.2)
theorem Lr {R:List cK}:cC R (ni []::R):=dN (M:=[])
theorem D2 {l m:List dX} {R:List cK}:cC (ni l::ni m::R) (ni (l++m)::R):=by
 unfold ni;rw [ah];exact all_append
theorem Gj {l m:List dX} {R:List cK}:cC (ni (l++m)::R) (ni l::ni m::R):=by
 unfold ni;rw [ah];exact Aj
theorem Ls {a:dX} {R:List cK}:cC (cR a.1 a.2::R) (ni [a]::R):=dN (M:=[cR a.1 a.2])
theorem Lt {a:dX} {R:List cK}:cC (ni [a]::R) (cR a.1 a.2::R):=cW (M:=[cR a.1 a.2])
theorem xN:∀ {l:List dX} {R:List cK},cC (ni l::R) (cG l::R)
 | [],R=>aX
 | a::l,R=>by
  have h1:cC (ni (a::l)::R) (ni [a]::ni l::R):=Gj (l:=[a]) (m:=l);have h2:cC (cG [a]::cG l::R) (cG (a::l)::R):=eK (l:=[a]) (m:=l);exact h1.trans (Lt.trans (jx.trans ((bh xN).trans h2)))
end Go.Proofs
namespace Go.Proofs
attribute [local irreducible] Bs.cE Bs.Do Bs.O Bs.W Bs.Fin Bs.A Bs.Ct Bs.cF Bs.Rd Bs.Sat Bs.cM Bs.Ob Bs.dJ Bs.View Bs.cC Bs.Ex Bs.dI Bs.Pu Bs.eZ Bs.dK Bs.eh
open Go.Bs
open Tryz
variable (R:List cK) (e:World)
def te (s:fb):fb:=if (dz s.b).2.1=s.b.length then s else s.cut ((dz s.b).2.1:Int)
def AL (s:fb):Int:=if (dz s.b).2.1=s.b.length then 0 else s.vY ((dz s.b).2.1:Int)
def Qc (gd:Nat) (s:fb) (R:List cK) (v':Value) (L':List cK):Prop :=
 ((dz s.b).2.2=false∧v'=.tuple #[.pointer none,nY,.int .i64 14]∧L'=dl gd s::R) ∨
 ((dz s.b).2.2=true∧AL s≠0∧v'=.tuple #[.pointer none,nY,.int .i64 (AL s)]∧L'=dl gd (te s)::R) ∨
 ((dz s.b).2.2=true∧AL s=0∧∃ (gj:Nat) (ad:Option Addr) (c:Nat) (ts:List dX),v'=.tuple #[pt gj,.slice ad ts.length c,.int .i64 0]∧ts.map (·.2)=(dz s.b).1∧L'=iZ gj gd ts.length::cU (.slice ad ts.length c) ts::cG ts::dl gd (te s)::R)
def NH (gd:Nat) (s:fb) (R:List cK) (v':Value) (L':List cK):Prop :=
 ((dz s.b).2.2=false∧v'=.tuple #[.pointer none,nY,.int .i64 14]∧L'=dl gd s::R) ∨
 ((dz s.b).2.2=true∧AL s≠0∧v'=.tuple #[.pointer none,nY,.int .i64 (AL s)]∧L'=dl gd (te s)::R) ∨
 ((dz s.b).2.2=true∧AL s=0∧∃ (gj:Nat) (ad:Option Addr) (c:Nat) (ts:List dX),v'=.tuple #[pt gj,.slice ad ts.length c,.int .i64 0]∧ts.map (·.2)=(dz s.b).1∧L'=iZ gj gd ts.length::cU (.slice ad ts.length c) ts::ni ts::dl gd (te s)::R)
theorem D3 (gd:Nat) (s:fb) (hs:s.ok) :
 Ct prog 65 #[pt gd] e (dl gd s::R) (NH gd s R):=by
 have nZ:=hs.1;refine a8 (args:=[_]) func65 rfl ntmps65 results65 rfl ?_;refine wB ?_;refine aZ rfl rfl (DX _ e gd s hs) ?_;rintro _ _ ⟨P0,cb,rfl,rfl⟩
 (repeat' first|refine Za ?_|refine Zb ?_|apply Zc|apply Zd|apply Ze|apply Zf|refine Zk ?_|refine Zq ?_|refine Zs ?_|refine Zt ?_|refine Zu ?_|refine Zy ?_|refine Zz ?_|refine ZA ?_|refine ZB ?_|refine ZC (fun _=>?_) fun _=>?_|refine ZG ?_|refine ZH ?_|refine ZI (fun _=>?_) fun _=>?_|refine ZM ?_|refine ZN ?_|refine ZO (fun _=>?_) fun _=>?_|refine ZP ?_|refine ZQ ?_|refine ZS ?_|refine Z7 ?_|refine Z8 ?_|refine Ye ?_|refine Yg fun _=>?_|refine Yi fun _=>?_|refine Ym ?_|refine Yz ?_|refine YA ?_|apply YB|apply YC|apply YD|apply YE|apply YF|apply YG|apply YH|apply YI|apply YJ|refine YK ?_|refine YN ?_|fail)
 refine aZ rfl rfl (jz _ e _ s.b (ba .zero) zo) ?_;rintro _ _ ⟨gr,rfl,rfl⟩;refine wB ?_;refine br (ι:=Nat × List dX × Option Addr × Nat) (fun i=>[(0,pt gd),(6,pt gr),(7,.int .i64 (i.1:Int)),(5,.slice i.2.2.1 i.2.1.length i.2.2.2)]) (fun i=>cU (.slice i.2.2.1 i.2.1.length i.2.2.2) i.2.1::ni i.2.1::Reader gr ⟨s.b.drop i.1,false⟩::dl gd s::R) (fun i=>xM s.b i.1 (i.2.1.map (·.2))) (fun i=>s.b.length - i.1) (0,[],none,0) (B5 s.b) (cD rfl (cD rfl (cD rfl (cD rfl dc)))) ((di dZ 1).trans ((bh Lr).trans zE)) ?_;rintro ⟨k,out,ad,c⟩ D4;dsimp only at D4 ⊢
 have hk:=D4.1;have y7:=D4.2.1;rw [ab] at y7
 have MR:(s.b.drop k).length=s.b.length - k:=aP;have jC:=D1 D4;have Gk:=fun ok=>Gi (ok:=ok) D4
 generalize Lf:s.b.drop k=b at *
 refine wB ?_;refine aZ rfl rfl (Ct.at zP (rF _ e gr _)) ?_;rintro _ _ ⟨rfl,rfl⟩;dsimp only
 by_cases h0:b.length=0
 ·have he:=Gk true (m1 zo);have mV:k=s.b.length:=by omega
  have hE:AL s=0:=by unfold AL;rw [he];exact aH mV
  have hS:te s=s:=by unfold te;rw [he];exact aH mV
  (repeat (refine wA ?_;intros))
  rename_i gj;refine aY (iZ gj gd out.length::cU (.slice ad out.length c) out::ni out::dl gd (te s)::R) rfl (by rw [hS];exact zE) (.inr (.inr ⟨by rw [he],hE,gj,ad,c,out,rfl,by rw [he],rfl⟩))
 refine wB ?_;refine aZ rfl rfl (Ct.at zP (rF _ e gr _)) ?_;rintro _ _ ⟨rfl,rfl⟩;dsimp only
 by_cases h8:b.length<8
 ·skip
  have he:=Gk true (m1 h8);have mV:k≠s.b.length:=by omega
  have hE:AL s=s.vY k:=by unfold AL;rw [he];exact aB mV
  have hS:te s=s.cut k:=by unfold te;rw [he];exact aB mV
  refine wB ?_;refine aZ rfl rfl (Ct.at zP (AJ _ e gd s k hs)) ?_;rintro _ _ ⟨rfl,rfl⟩
  by_cases hz:s.vY k=0
  ·(repeat (refine wA ?_;intros))
   rename_i gj;refine aY (iZ gj gd out.length::cU (.slice ad out.length c) out::ni out::dl gd (te s)::R) rfl (by rw [hS];exact zE) (.inr (.inr ⟨by rw [he],by rw [hE,hz],gj,ad,c,out,rfl,by rw [he],rfl⟩))
  ·refine wB ?_;exact aY (dl gd (te s)::R) rfl (by rw [hS];exact zE) (.inr (.inl ⟨by rw [he],by rw [hE];exact hz,by rw [hE];rfl,rfl⟩))
 obtain ⟨f1,f2,f3,f4⟩:=Wc h8;refine wB ?_;refine aZ rfl rfl (DY _ e gr ⟨b,false⟩) ?_;rw [f2,f3,f4,f1];rintro _ _ ⟨rfl,rfl⟩;have Ad:lK b<4294967296:=sD _
 by_cases hg:oF b
 rotate_left
 ·have he:=Gk false (AK h8 hg);rw [aq (show ¬ (lK b=B4 (C2 b)∧lK b≤65535) from hg)];refine wB ?_;exact aY (dl gd s::R) rfl zE (.inl ⟨by rw [he],rfl,rfl⟩)
 rw [ay (show lK b=B4 (C2 b)∧lK b≤65535 from hg)];have R5:=hg.2;refine wB ?_;refine aZ rfl rfl (rF _ e gr _) ?_;rintro _ _ ⟨rfl,rfl⟩;dsimp only;have X1:(b.drop 8).length=b.length - 8:=aP
 by_cases cQ:(b.drop 8).length<lK b
 ·skip
  have he:=Gk true (xL h8 hg zo);have mV:k≠s.b.length:=by omega
  have hE:AL s=s.vY k:=by unfold AL;rw [he];exact aB mV
  have hS:te s=s.cut k:=by unfold te;rw [he];exact aB mV
  refine wB ?_;refine aZ rfl rfl (Ct.at zP (AJ _ e gd s k hs)) ?_;rintro _ _ ⟨rfl,rfl⟩
  by_cases hz:s.vY k=0
  ·(repeat (refine wA ?_;intros))
   rename_i gj;refine aY (iZ gj gd out.length::cU (.slice ad out.length c) out::ni out::dl gd (te s)::R) rfl (by rw [hS];exact zE) (.inr (.inr ⟨by rw [he],by rw [hE,hz],gj,ad,c,out,rfl,by rw [he],rfl⟩))
  ·refine wB ?_;exact aY (dl gd (te s)::R) rfl (by rw [hS];exact zE) (.inr (.inl ⟨by rw [he],by rw [hE];exact hz,by rw [hE];rfl,rfl⟩))
 obtain ⟨g1,g2⟩:=Wd (b:=b.drop 8) (n:=lK b) zo;have ft:=jC h8 hg zo;have mw:((b.drop 8).take (lK b)).length=lK b:=by rw [aE];omega
 refine wB ?_;refine aZ rfl rfl (nI _ e gr ⟨b.drop 8,false⟩ (lK b) zd) ?_;rw [g1,g2,List.drop_drop];rintro _ _ ⟨ep,c3,rfl,rfl⟩
 generalize (b.drop 8).take (lK b)=t at *
 (repeat (refine wA ?_;intros))
 refine bD (bm rfl rfl rfl zP (bu .zero rfl zl) rfl rfl zO zm zo fun gZ c4 _=>?_)
 refine wB ?_;refine bi (k+(8+lK b),out++[(.slice ep t.length c3,t)],gZ,c4) ?_ ?_ ?_ ?_
 ·dsimp only;rw [ah];exact ft
 ·dsimp only;omega
 ·dsimp only;rw [aa,aj];exact cD rfl (cD rfl (cD rfl (cD rfl dc)))
 ·dsimp only;have Fy:s.b.drop (k+(8+lK b))=b.drop (8+lK b):=by rw [← Lf,List.drop_drop]
  rw [Fy];refine cn (show cC _ (cR (.slice ep t.length c3) t::ni out::dJ dZ 1 (.slice gZ (out.length+1) c4) (out.length+1) (out.map (·.1)++[.slice ep t.length c3])::Reader gr ⟨b.drop (8+lK b),false⟩::dl gd s::R) from zE) (cn (Ls (a:=(.slice ep t.length c3,t))) (cn (bz (.succ .zero) aX) (cn D2 ?_)));simp only [cU,aa,aj,ah,List.map_cons,List.map_nil];exact zE
theorem xO (gd:Nat) (s:fb) (hs:s.ok) :
 Ct prog 65 #[pt gd] e (dl gd s::R) (Qc gd s R) :=
 (D3 R e gd s hs).RR fun v L' h=>by
  rcases h with h|h|⟨h1,h2,gj,ad,c,ts,h3,h4,rfl⟩
  ·exact ⟨_,aX,.inl h⟩
  ·exact ⟨_,aX,.inr (.inl h)⟩
  ·exact ⟨_,bh (bh xN),.inr (.inr ⟨h1,h2,gj,ad,c,ts,h3,h4,rfl⟩)⟩
def fh (n:Nat):List UInt8:=[UInt8.ofNat n]
def D5 (l:List (List UInt8)):Prop:=l.length≤16∧∀ i (h:i<l.length),l[i]=fh i
abbrev l3 (gb gj k:Nat):cK:=cM gb [pt gj,.int .i64 (k:Int)] 228 (0,0)
def NI (gd:Nat) (s:fb) (R:List cK) (v':Value) (L':List cK):Prop :=
 ((dz s.b).2.2=false∧v'=.tuple #[.pointer none,.int .i64 14]∧L'=dl gd s::R) ∨
 ((dz s.b).2.2=true∧AL s≠0∧v'=.tuple #[.pointer none,.int .i64 (AL s)]∧L'=dl gd (te s)::R) ∨
 ((dz s.b).2.2=true∧AL s=0∧¬ D5 (dz s.b).1∧v'=.tuple #[.pointer none,.int .i64 14]∧L'=dl gd (te s)::R) ∨
 ((dz s.b).2.2=true∧AL s=0∧D5 (dz s.b).1∧∃ gb gj:Nat,v'=.tuple #[pt gb,.int .i64 0]∧L'=l3 gb gj (dz s.b).1.length::iZ gj gd (dz s.b).1.length::dl gd (te s)::R)
theorem Gl (gd:Nat) (s:fb) (hs:s.ok) :
 Ct prog 64 #[pt gd] e (dl gd s::R) (NI gd s R):=by
 have nZ:=hs.1;refine a8 (args:=[_]) func64 rfl ntmps64 results64 rfl ?_;refine wB ?_;refine aZ rfl rfl (xO _ e gd s hs) ?_;rintro _ _ (⟨h1,rfl,rfl⟩|⟨h1,h2,rfl,rfl⟩|⟨h1,h2,gj,ad,c,ts,rfl,hd,rfl⟩)
 ·refine wB ?_;exact aY _ rfl aX (.inl ⟨h1,rfl,rfl⟩)
 ·refine wB ?_;exact aY _ rfl aX (.inr (.inl ⟨h1,h2,rfl,rfl⟩))
 refine wB ?_;refine bG (gx (.succ .zero)) ?_;rintro ⟨⟨a,c',hq,Yo,hcb,MQ⟩,_⟩;obtain ⟨rfl,_,rfl⟩:=Value.slice.inj hq;clear hq;simp only [maxLen] at hcb
 have Gm:dE (iZ gj gd ts.length::cU (.slice ad ts.length c) ts::cG ts::dl gd (te s)::R) ts:=dE.tail (dE.tail ef);refine br (ι:=Nat) (fun i=>[(4,pt gj),(5,.slice ad ts.length c),(18,.slice ad ts.length c),(19,.int .i64 (ts.length:Int)),(20,.int .i64 (i:Int))]) (fun i=>iZ gj gd ts.length::cU (.slice ad ts.length c) ts::cG ts::dl gd (te s)::R) (fun i=>i≤ts.length∧i≤16∧∀ j (h:j<ts.length),j<i→(ts[j]).2=fh j) (fun i=>ts.length - i) 0 ⟨aG _,aG _,fun j _ h=>absurd h (Nat.not_lt_zero j)⟩ zS aX ?_;rintro i ⟨hi,abb,OD⟩;have hlen:ts.length=(dz s.b).1.length:=by simpa using congrArg List.length hd
 have D6:∀ j (h:j<ts.length),(dz s.b).1[j]'zo=(ts[j]).2:=fun j h=>by
  have:(ts.map (·.2))[j]'(by simpa using h)=(dz s.b).1[j]'zo:=by simp only [hd]
  rw [← this,List.getElem_map]
 by_cases cQ:i<ts.length
 rotate_left
 ·have hk:D5 (dz s.b).1:=⟨by omega,fun j h=>by rw [D6 j zo];exact OD j zo zo⟩
  (repeat (refine wA ?_;intros))
  rename_i gb;refine aY (l3 gb gj (dz s.b).1.length::iZ gj gd (dz s.b).1.length::dl gd (te s)::R) rfl (by rw [← hlen];exact zE) (.inr (.inr (.inr ⟨h1,h2,hk,gb,gj,rfl,rfl⟩)))
 rcases MQ with ⟨_,_,h0⟩|⟨p,rfl⟩
 ·omega
 have js:=Gm _ (az cQ);have B6:=D6 i cQ;have hr:Rd (iZ gj gd ts.length::cU (.slice (some ⟨p,0,none⟩) ts.length c) ts::cG ts::dl gd (te s)::R) ⟨p,0+i,none⟩ (ts[i]'cQ).1:=Rd.tail ((ba .zero).elem (by rw [aI,ae cQ];rfl))
 have NJ:(i≥16∨(ts[i]'cQ).2≠fh i)→¬ D5 (dz s.b).1:=fun h hk=>by
  rcases h with h|h
  ·have:=hk.1;omega
  ·exact h (by rw [← B6];exact hk.2 i zo)
 have nM:(ts[i]'cQ).2=fh i→∀ j (h:j<ts.length),j<i+1→(ts[j]).2=fh j:=fun hh j hj h=>by
  by_cases Ah:j=i
  ·subst Ah;exact hh
  ·exact OD j hj zo
 clear B6
 generalize ts[i]'cQ=y at *
 obtain ⟨tv,tb⟩:=y;dsimp only at js hr NJ nM
 refine bG (cF.shape js zo) ?_;rintro ⟨⟨adt,ct,rfl,_,_,_,hq⟩,_⟩
 by_cases Ns:i<16
 rotate_left
 ·refine wB ?_;exact aY (dl gd (te s)::R) rfl zE (.inr (.inr (.inl ⟨h1,h2,NJ (.inl zo),rfl,rfl⟩)))
 by_cases DT:tb.length=1
 rotate_left
 ·refine wB ?_;exact aY (dl gd (te s)::R) rfl zE (.inr (.inr (.inl ⟨h1,h2,NJ (.inr (fun h=>DT (by rw [h];rfl))),rfl,rfl⟩)))
 match tb,DT with
 | [b0],_ =>
 rcases hq with hq|⟨q,o,rfl⟩
 ·cases hq
 have pK:=js.elem (j:=0) rfl;unfold u8 at pK
 have abc:b0.toNat<256:=b0.toNat_lt
 by_cases vQ:b0.toNat=i
 ·refine wB ?_;have hk:[b0]=fh i:=by rw [← vQ];simp [fh]
  exact bi (i+1) ⟨cQ,by omega,nM hk⟩ zo zS zE
 ·refine wB ?_;refine aY (dl gd (te s)::R) rfl zE (.inr (.inr (.inl ⟨h1,h2,NJ (.inr (fun h=>vQ ?_)),rfl,rfl⟩)));have h3:=(List.cons.inj h).1;rw [h3,UInt8.toNat_ofNat_of_lt' (show i<256 by omega)]
def D7 (k:Nat) (s:fb):Int:=if 16≤k then 23 else DZ s (fh k)
def HM (k:Nat) (s:fb):Nat:=if 16≤k then k else if DZ s (fh k)=0 then k+1 else k
def HN (k:Nat) (s:fb):fb:=if 16≤k then s else Je s (fh k)
def HO (k j:Nat) (s:fb):Nat:=if 16≤k then j else D0 s (fh k) j
def takeN (k:Nat) (s:fb):Int:=if D7 k s=0 then k else 0
theorem xP (gb gj gd k j:Nat) (s:fb) (hs:s.ok) (hk:k≤16) (hj:j≤1000000000000) :
 Ct prog 112 #[pt gb] e (l3 gb gj k::iZ gj gd j::dl gd s::R) (fun v' L'=>v'=.tuple #[.int .i64 (takeN k s),.int .i64 (D7 k s)]∧L'=l3 gb gj (HM k s)::iZ gj gd (HO k j s)::dl gd (HN k s)::R):=by
 refine a8 (args:=[_]) func112 rfl ntmps112 results112 rfl ?_
 by_cases Ns:16≤k
 ·simp only [takeN,D7,HM,HN,HO,aH Ns];refine wB ?_;exact aY _ rfl aX ⟨by simp [z9],rfl⟩
 simp only [takeN,D7,HM,HN,HO,aB Ns]
 (repeat (refine wA ?_;intros))
 rename_i gl
 have hb8:Value.int .u8 (k:Int)=u8 (UInt8.ofNat k):=by
  unfold u8;rw [UInt8.toNat_ofNat_of_lt' (show k<256 by omega)]
 rw [hb8];have kh:da (cM gl [u8 (UInt8.ofNat k)] na (0,0)::l3 gb gj k::R) (.slice (some ⟨gl,0,none⟩) 1 1) (fh k):=bu .zero rfl zl;refine O.fo (show cC _ (iZ gj gd j::dl gd s::cM gl [u8 (UInt8.ofNat k)] na (0,0)::l3 gb gj k::R) from zE) ?_;refine aZ rfl rfl (nL _ e gj gd j s (fh k) _ hs kh (by simp [fh]) hj) ?_;rintro _ _ ⟨rfl,rfl⟩
 by_cases h0:DZ s (fh k)=0
 ·rw [aH h0,aH h0,h0];refine wB ?_;exact aY _ rfl zE ⟨rfl,rfl⟩
 ·rw [aB h0,aB h0];refine wB ?_;exact aY _ rfl zE ⟨rfl,rfl⟩
def dM (b:List UInt8):fb:=⟨b,b.length,1048576,0,false⟩
theorem Lu {b:List UInt8} (h:b.length≤1048576):(dM b).ok:=⟨h,aT _,aT _,aG _⟩
theorem op0 {b:List UInt8}:AL (dM b)=0∧te (dM b)=dM (b.take (dz b).2.1):=by
 have h:=Lq b
 have hc:fb.cut (dM b) ((dz b).2.1:Int)=dM (b.take (dz b).2.1)∧fb.vY (dM b) ((dz b).2.1:Int)=0:=by
  have h2:¬ ((b.length:Int)<((dz b).2.1:Int)):=by omega
  simp [fb.cut,fb.vY,dM,fb.pow,h2,aE,Nat.min_eq_left h]
  omega
 unfold AL te
 by_cases h2:(dz b).2.1=b.length
 ·rw [aH (show (dz (dM b).b).2.1=(dM b).b.length from h2),aH (show (dz (dM b).b).2.1=(dM b).b.length from h2),h2];exact ⟨rfl,by rw [aF (aT _)]⟩
 ·rw [aB (show ¬ (dz (dM b).b).2.1=(dM b).b.length from h2),aB (show ¬ (dz (dM b).b).2.1=(dM b).b.length from h2)];exact ⟨hc.2,hc.1⟩
def NK (gd:Nat) (b:List UInt8) (R:List cK) (v':Value) (L':List cK):Prop :=
 ((dz b).2.2=false∧v'=.tuple #[.pointer none,nY,.int .i64 14]∧L'=dl gd (dM b)::R) ∨
 ((dz b).2.2=true∧∃ (gj:Nat) (ad:Option Addr) (c:Nat) (ts:List dX),v'=.tuple #[pt gj,.slice ad ts.length c,.int .i64 0]∧ts.map (·.2)=(dz b).1∧L'=iZ gj gd ts.length::cU (.slice ad ts.length c) ts::cG ts::dl gd (dM (b.take (dz b).2.1))::R)
theorem m2 (gd:Nat) (b:List UInt8) (hb:b.length≤1048576) :
 Ct prog 65 #[pt gd] e (dl gd (dM b)::R) (NK gd b R) :=
 (xO R e gd (dM b) (Lu hb)).mono fun v' L' h=>by
  obtain ⟨h1,h2⟩:=op0 (b:=b);rcases h with ⟨a1,a2,a3⟩|⟨a1,a2,_⟩|⟨a1,_,gj,ad,c,ts,a3,a4,a5⟩
  ·exact .inl ⟨a1,a2,a3⟩
  ·exact absurd h1 a2
  ·exact .inr ⟨a1,gj,ad,c,ts,a3,a4,by rw [a5,h2]⟩
def fi (l:List (List UInt8)):List UInt8:=l.flatMap fG
theorem nN {l:List (List UInt8)} {n:Nat} (h:∀ m∈l,m.length≤n):(fi l).length≤l.length*(n+8):=by
 induction l with
 | nil=>simp [fi]
 | cons m l ih =>
  have h1:=ih fun x hx=>h x (aU _ hx)
  have h2:=h m (List.mem_cons_self ..)
  show (fG m++fi l).length≤_
  rw [aa,gJ,aR,Nat.add_mul]
  omega
theorem nO (l:List (List UInt8)) (m:List UInt8):fi (l++[m])=fi l++fG m:=by simp [fi]
end Go.Proofs
namespace Go.Proofs
open Go.Bs
theorem NL {n:Nat} (h:n<4294967296):n=B4 (B4 n):=by unfold B4;omega
theorem Jg (m r:List UInt8) (hm:m.length≤65535):lK (fG m++r)=m.length∧C2 (fG m++r)=B4 m.length∧(fG m++r).drop 8=m++r:=by
 have e1:(fG m++r)=be m.length 4++(be (B4 m.length) 4++(m++r)):=by simp [fG]
 have l1:(be m.length 4).length=4:=cY _ _;have l2:(be (B4 m.length) 4).length=4:=cY _ _;refine ⟨?_,?_,?_⟩
 ·unfold lK;rw [e1,List.take_append_of_le_length zo,aF zo];exact qq _ zo
 ·unfold C2;rw [e1,List.drop_append_of_le_length zo,List.drop_of_length_le zo,List.nil_append,List.take_append_of_le_length zo,aF zo];exact qq _ (Gd _)
 ·have d:∀ (x y:List UInt8),x.length=4→(x++y).drop 4=y:=fun x y h=>by rw [List.drop_append_of_le_length zo,List.drop_of_length_le zo,List.nil_append]
  rw [e1,show 8=4+4 from rfl,← List.drop_drop,d _ _ l1,d _ _ l2]
theorem Jh (m r:List UInt8) (hm:m.length≤65535):dz (fG m++r)=(m::(dz r).1,8+m.length+(dz r).2.1,(dz r).2.2):=by
 obtain ⟨h1,h2,h3⟩:=Jg m r hm;have hl:(fG m++r).length=m.length+8+r.length:=by rw [aa,gJ]
 have hg:oF (fG m++r):=by
  refine ⟨?_,?_⟩
  ·rw [h1,h2];exact NL zo
  ·rw [h1];exact hm
 have h4:(fG m++r).drop (8+m.length)=r:=by
  rw [← List.drop_drop,h3,List.drop_append_of_le_length (aT _),List.drop_of_length_le (aT _),List.nil_append]
 rw [rO zo hg (by rw [h1];omega),h1,h3,h4,List.take_append_of_le_length (aT _),aF (aT _)]
theorem Ji (l:List (List UInt8)) (r:List UInt8) (hl:∀ m∈l,m.length≤65535):dz (fi l++r)=(l++(dz r).1,(fi l).length+(dz r).2.1,(dz r).2.2):=by
 induction l with
 | nil=>simp [fi]
 | cons m l ih =>
  have e1:fi (m::l)=fG m++fi l:=rfl;rw [e1,aM,Jh m _ (hl m (List.mem_cons_self ..)),ih fun x hx=>hl x (aU _ hx)];simp only [List.cons_append,aa,gJ];refine Prod.ext rfl (Prod.ext ?_ rfl);dsimp only
  omega
theorem Jj:dz []=([],0,true):=m1 (by simp)
theorem nP (l:List (List UInt8)) (hl:∀ m∈l,m.length≤65535):dz (fi l)=(l,(fi l).length,true):=by
 have:=Ji l [] hl;rw [aK,Jj] at this
 simpa using this
def m3 (b:List UInt8) (sy:Nat):fb:=⟨b,sy,1048576,0,false⟩
theorem tf {b:List UInt8} {sy:Nat} (h:b.length≤1048576) (h2:sy≤b.length):(m3 b sy).ok:=⟨h,aT _,h2,aG _⟩
theorem Jk {b m:List UInt8} {sy:Nat} (h:b.length+m.length+8≤1048576):(m3 b sy).pn (fG m)=0∧(m3 b sy).DW (fG m)=m3 (b++fG m) sy:=by
 have hr:=gJ m;obtain ⟨h1,h2⟩:=fb.AI (b:=b) (m:=fG m) (sy:=sy) (li:=1048576) zo;exact ⟨h2,h1⟩
theorem Jl (b:List UInt8) (sy:Nat):(m3 b sy).B3=0∧(m3 b sy).NG=dM b:=by
 simp [fb.B3,fb.NG,fb.pow,m3,dM]
theorem add_plain {b m:List UInt8} {sy:Nat} (h:b.length+m.length+8≤1048576):DZ (m3 b sy) m=0∧Je (m3 b sy) m=dM (b++fG m)∧∀ k,D0 (m3 b sy) m k=k+1:=by
 obtain ⟨h1,h2⟩:=Jk (sy:=sy) h;obtain ⟨h3,h4⟩:=Jl (b++fG m) sy;refine ⟨?_,?_,fun k=>?_⟩
 ·unfold DZ;rw [aH h1,h2,h3]
 ·unfold Je;rw [aH h1,h2,h4]
 ·unfold D0;rw [aH h1]
end Go.Proofs
namespace Go.Proofs
attribute [local irreducible] Bs.cE Bs.Do Bs.O Bs.W Bs.Fin Bs.A Bs.Ct Bs.cF Bs.Rd Bs.Sat Bs.cM Bs.Ob Bs.dJ Bs.View Bs.cC Bs.Ex Bs.dI Bs.Pu Bs.eZ Bs.dK Bs.eh
open Go.Bs
open Tryz
def nQ (n:Nat):List (List UInt8):=(List.range n).map fh
def kl (n:Nat):List UInt8:=fi (nQ n)
theorem AM (n:Nat):(nQ n).length=n:=by simp [nQ]
theorem D8 {n:Nat}:∀ m∈nQ n,m.length≤65535:=fun m hm=>by
 obtain ⟨i,_,rfl⟩:=aD.1 hm
 simp [fh]
theorem Gn (n:Nat):nQ (n+1)=nQ n++[fh n]:=by simp [nQ,List.range_succ]
theorem HP (n:Nat):kl (n+1)=kl n++fG (fh n):=by rw [kl,Gn,nO];rfl
theorem rP:∀ n,(kl n).length=9*n
 | 0=>rfl
 | n+1=>by rw [HP,aa,rP n,gJ];simp [fh];omega
theorem HQ (n:Nat):dz (kl n)=(nQ n,9*n,true):=by
 have h:=nP (nQ n) D8;rw [show fi (nQ n)=kl n from rfl,rP] at h
 exact h
theorem Lv {n:Nat} (h:n≤16):D5 (nQ n):=⟨by rw [AM];exact h,fun i hi=>by simp [nQ]⟩
def eH (n L:Nat):fb:=⟨kl n,9*n,L,0,false⟩
theorem xQ {n L:Nat} (h:9*n≤L) (hL:L≤1048576):(eH n L).ok:=⟨by simp only [eH,rP];omega,hL,by simp only [eH,rP];omega,by simp [eH]⟩
theorem Lw (n L:Nat):AL (eH n L)=0∧te (eH n L)=eH n L:=by
 have h:(dz (eH n L).b).2.1=(eH n L).b.length:=by simp only [eH,HQ,rP]
 exact ⟨by unfold AL;rw [aH h],by unfold te;rw [aH h]⟩
theorem vo (R:List cK) (e:World) (gd n L:Nat) (hn:n≤16) (h:9*n≤L) (hL:L≤1048576) :
 Ct prog 64 #[pt gd] e (dl gd (eH n L)::R) (fun v' L'=>∃ gb gj:Nat,v'=.tuple #[pt gb,.int .i64 0]∧L'=l3 gb gj n::iZ gj gd n::dl gd (eH n L)::R) :=
 (Gl R e gd (eH n L) (xQ h hL)).mono fun v' L' h=>by
  have ho:dz (eH n L).b=(nQ n,9*n,true):=HQ n;obtain ⟨h1,h2⟩:=Lw n L;rcases h with ⟨a,_⟩|⟨_,a,_⟩|⟨_,_,a,_⟩|⟨_,_,_,gb,gj,b1,b2⟩
  ·rw [ho] at a;cases a
  ·exact absurd h1 a
  ·rw [ho] at a;exact absurd (Lv hn) a
  ·rw [ho,h2] at b2
   dsimp only at b2
   rw [AM] at b2
   exact ⟨gb,gj,b1,b2⟩
theorem Jm {n L:Nat} (h:9*n+9≤L):DZ (eH n L) (fh n)=0∧Je (eH n L) (fh n)=eH (n+1) L∧∀ j,D0 (eH n L) (fh n) j=j+1:=by
 have hl:(fG (fh n)).length=9:=by rw [gJ];rfl
 obtain ⟨h1,h2⟩:=fb.AI (b:=kl n) (m:=fG (fh n)) (sy:=9*n) (li:=L) (by rw [rP,hl];exact h);have e1:(eH n L).pn (fG (fh n))=0:=h2;have e2:(eH n L).DW (fG (fh n))=⟨kl n++fG (fh n),9*n,L,0,false⟩:=h1;refine ⟨?_,?_,fun j=>?_⟩
 ·unfold DZ;rw [aH e1,e2];rfl
 ·unfold Je;rw [aH e1,e2,← HP];simp only [fb.NG,fb.pow,eH,rP,Nat.lt_irrefl,gt_iff_lt,if_false]
  rfl
 ·unfold D0;rw [aH e1]
theorem vv (R:List cK) (e:World) (gb gj gd n L:Nat) (hn:n<16) (h:9*n+9≤L) (hL:L≤1048576) :
 Ct prog 112 #[pt gb] e (l3 gb gj n::iZ gj gd n::dl gd (eH n L)::R) (fun v' L'=>v'=.tuple #[.int .i64 n,.int .i64 0]∧L'=l3 gb gj (n+1)::iZ gj gd (n+1)::dl gd (eH (n+1) L)::R):=by
 obtain ⟨a1,a2,a3⟩:=Jm h;refine (xP R e gb gj gd n n (eH n L) (xQ zo hL) zo zo).mono ?_;rintro _ _ ⟨rfl,rfl⟩;have Ns:¬ 16≤n:=by omega
 simp only [takeN,D7,HM,HN,HO,aB Ns,a1,a2,a3,if_true];refine ⟨?_,?_⟩<;>first|rfl|trivial
theorem vx (R:List cK) (e:World) (gb gj gd L:Nat) (h0:144≤L) (hL:L≤1048576) :
 Ct prog 112 #[pt gb] e (l3 gb gj 16::iZ gj gd 16::dl gd (eH 16 L)::R) (fun v' L'=>v'=.tuple #[.int .i64 0,.int .i64 23]∧L'=l3 gb gj 16::iZ gj gd 16::dl gd (eH 16 L)::R):=by
 refine (xP R e gb gj gd 16 16 (eH 16 L) (xQ zo hL) zo zo).mono ?_;rintro _ _ ⟨rfl,rfl⟩;exact ⟨rfl,rfl⟩
end Go.Proofs
namespace Go.Bs
section
variable {κ:Type} [DecidableEq κ]
def tg (k:κ):List (κ × Value)→Nat→Option (Nat × Value)
 | [],_=>none
 | p::l,j=>if p.1=k then some (j,p.2) else tg k l (j+1)
def ic (k:κ):List (κ × Value)→Option Value
 | []=>none
 | p::l=>if p.1=k then some p.2 else ic k l
def mD (k:κ) (v:Value):List (κ × Value)→List (κ × Value)
 | []=>[(k,v)]
 | p::l=>if p.1=k then (k,v)::l else p::mD k v l
theorem AN {k:κ} {v:Value}:∀ {l:List (κ × Value)} {j:Nat},tg k l j=none→ic k l=none∧mD k v l=l++[(k,v)]
 | [],_,_=>⟨rfl,rfl⟩
 | p::l,j,h=>by
  unfold tg at h
  by_cases hk:p.1=k
  ·rw [aH hk] at h;cases h
  ·rw [aB hk] at h
   obtain ⟨h1,h2⟩:=AN (v:=v) h;unfold ic mD;rw [aB hk,aB hk,h2];exact ⟨h1,rfl⟩
theorem AO {k:κ} {v:Value}:∀ {l:List (κ × Value)} {j i:Nat} {u:Value},tg k l j=some (i,u)→∃ n,i=j+n∧ic k l=some u∧mD k v l=l.set n (k,v)∧∃ h:n<l.length,(l[n]'h).1=k
 | [],_,_,_,h=>by cases h
 | p::l,j,i,u,h=>by
  unfold tg at h
  by_cases hk:p.1=k
  ·rw [aH hk] at h
   cases h
   refine ⟨0,rfl,by unfold ic;rw [aH hk],by unfold mD;rw [aH hk];rfl,by simp,hk⟩
  ·rw [aB hk] at h
   obtain ⟨n,h1,h2,h3,h4,h5⟩:=AO (v:=v) h;refine ⟨n+1,by omega,by unfold ic;rw [aB hk];exact h2,by unfold mD;rw [aB hk,h3];rfl,by rw [aR];omega,h5⟩
theorem HR {k:κ}:∀ {l:List (κ × Value)} {j:Nat},(tg k l j).map (·.2)=ic k l
 | [],_=>rfl
 | p::l,j=>by
  unfold tg ic
  by_cases hk:p.1=k
  ·rw [aH hk,aH hk];rfl
  ·rw [aB hk,aB hk];exact HR
class Gp (P:Program) (t:TypeId) (key:κ→Value) (z:outParam Value):Prop where
 ex:∃ kt et,P.underlying t=some (.map kt et)∧(∀ w,(zeroValue et).run P w=.ok z w)∧(∀ b k w,(Instr.checkKey b 10000 kt (key k)).run P w=.ok () w) ∧
  (∀ k (l:List MapEntry) (mE:List (κ × Value)) w,l.map (fun e=>(e.key,e.val))=mE.map (fun p=>(key p.1,p.2))→(Instr.findKey kt (key k) l).run P w=.ok (tg k mE 0) w)∧∀ k,Instr.sameBits 10000 (key k) (key k)=true
def kG (key:κ→Value) (g:Nat) (mE:List (κ × Value)):cK:=fun h=>∃ (es:Array MapEntry) (clock:Nat),h g=some (.map es clock)∧es.toList.map (fun e=>(e.key,e.val))=mE.map (fun p=>(key p.1,p.2))
theorem p5 {key:κ→Value} {d:TypeDesc} (hs:∀ a b,Instr.sameNow d (key a) (key b)=some (decide (a=b))) (k:κ):∀ (l:List MapEntry) (mE:List (κ × Value)) (j:Nat),l.map (fun e=>(e.key,e.val))=mE.map (fun p=>(key p.1,p.2))→Instr.findNow d (key k) l j=some (tg k mE j)
 | [],mE,j,h=>by
  cases mE with
  | nil=>rfl
  | cons _ _=>simp at h
 | e::l,mE,j,h=>by
  cases mE with
  | nil=>simp at h
  | cons p mE =>
   simp only [List.map_cons,List.cons.injEq,Prod.mk.injEq] at h
   obtain ⟨⟨h1,h2⟩,h3⟩:=h;unfold Instr.findNow tg;rw [h1,hs]
   by_cases hk:k=p.1
   ·rw [ay hk,aH hk.symm,h2]
   ·rw [aq hk,aB (fun q=>hk q.symm)];exact p5 hs k l mE (j+1) h3
theorem Qd {P:Program} {t kt et:TypeId} {z:Value} (h1:P.underlying t=some (.map kt et)) (h2:P.underlying kt=some .string) (h3:∀ w,(zeroValue et).run P w=.ok z w):Gp P t (fun l:List UInt8=>Value.string (str l)) z :=
 ⟨kt,et,h1,h3,fun b k w=>MapKept.run_checkKey (k:=.string (str k)) h2 trivial b 9999,fun k l mE w h=>MapKept.run_findKey h2 (p5 (key:=fun l:List UInt8=>Value.string (str l)) (d:=.string) (fun a b=>by
  have:(str a == str b)=decide (a=b):=by
   by_cases h:a=b
   ·subst h;rw [ay rfl];exact (MapKept.bytes_beq _ _).2 rfl
   ·rw [aq h]
    cases hb:(str a == str b) with
    | false=>rfl
    | true=>exact absurd (by
     have:=(MapKept.bytes_beq _ _).1 hb;have h4:=congrArg (fun x:ByteArray=>x.data.toList) this
     simpa [str] using h4) h
  simp [Instr.sameNow,this]) k l mE 0 h),fun k=>by
  show Instr.sameBits 10000 (.string (str k)) (.string (str k))=true
  simp only [Instr.sameBits];exact (MapKept.bytes_beq _ _).2 rfl⟩
theorem Qe {P:Program} {t kt et:TypeId} {z:Value} (h1:P.underlying t=some (.map kt et)) (h2:P.underlying kt=some (.int .i64)) (h3:∀ w,(zeroValue et).run P w=.ok z w):Gp P t (fun n:Int=>Value.int .i64 n) z :=
 ⟨kt,et,h1,h3,fun b k w=>MapKept.run_checkKey (k:=.int .i64 k) h2 rfl b 9999,fun k l mE w h=>MapKept.run_findKey h2 (p5 (key:=fun n:Int=>Value.int .i64 n) (d:=.int .i64) (fun a b=>by
  simp [Instr.sameNow]
  by_cases h:a=b<;>simp [h]) k l mE 0 h),fun k=>by
  show Instr.sameBits 10000 (.int .i64 k) (.int .i64 k)=true
  simp [Instr.sameBits]⟩
end
section
variable {P:Program} {N:Fr} {Q:fM} {σ:Env} {e:World} {L:List cK} {all:Array Oper} {rest:List Oper}
variable {d:Nat} {op:Op} {ty:TypeId} {pos:String} {af:Array Edge} {gd:Option (Nat × Bool)} {K:Env→List cK→Prop} {x y z:Operand} {t:TypeId}
theorem Do.p6 {κ:Type} (key:κ→Value) (hd:Nat.blt d N.n=true) (k:∀ g,K ((d,.map (some g))::σ) (kG key g []::L)):Do P N ⟨some d,.makeMap t none,ty,pos,af,gd⟩ K σ e L:=fun a w ha hs K' Q' hK =>
 eN (w':=w.alloc (.map #[] 0)) (v:=.map (some w.heap.size)) (by
  have h:(Instr.makeMap t none).run P w=.ok (.map (some w.heap.size)) (w.alloc (.map #[] 0)):=rfl
  simp [execOp,h]) (hK _ _ _ _ (k _) (ha.put hd _) ((hs.alloc _).cN fun _=>jt fun _ h=>⟨#[],0,h,rfl⟩))
variable {κ:Type} [DecidableEq κ] {key:κ→Value}
theorem cE.k8 {g:Nat} {k:κ} {zz:Value} {mE:List (κ × Value)} {R:List cK} [m:Gp P t key zz] (hx:ev σ x=some (.map (some g))) (hy:ev σ y=some (key k)) (p:cT L (kG key g mE) R) :
 cE P N (.lookup t x y true) ty (.tuple #[(ic k mE).getD zz,.bool (ic k mE).isSome]) σ e L:=fun a w ha hs _ _ _ _=>by
 obtain ⟨kt,et,hm,hz,Lx,We,Wf⟩:=m.ex;obtain ⟨h1,h2,ap,l1,l2,⟨es,clock,hg,I2⟩,hR⟩:=(hs.cN p.out).2.2.2;have hb:w.heap[g]?=some (.map es clock):=l1 g _ hg;have hf:=We k es.toList mE w I2;have he:=HR (k:=k) (l:=mE) (j:=0)
 have hr:(Instr.lookup t (.map (some g)) (key k) true).run P w=.ok (.tuple #[(ic k mE).getD zz,.bool (ic k mE).isSome]) w:=by
  unfold Instr.lookup
  cases hp:tg k mE 0 with
  | none =>
   rw [hp] at hf he
   rw [← he]
   simp [run_underlying hm,MapKept.run_getObj_map hb,Lx,hf,hz]
  | some q =>
   obtain ⟨i,v⟩:=q;rw [hp] at hf he
   rw [← he]
   simp [run_underlying hm,MapKept.run_getObj_map hb,Lx,hf]
 simp [execOp,ha.ev hx,ha.ev hy,hr]
theorem Do.kS {g:Nat} {k:κ} {v zz:Value} {mE:List (κ × Value)} {R:List cK} [m:Gp P t key zz] (hx:ev σ x=some (.map (some g))) (hy:ev σ y=some (key k)) (hz:ev σ z=some v) (p:cT L (kG key g mE) R) (kk:K σ (kG key g (mD k v mE)::R)) :
 Do P N ⟨none,.mapUpdate t x y z,ty,pos,af,gd⟩ K σ e L:=fun a w ha hs K' Q' hK=>by
 obtain ⟨kt,et,hm,Uy,Lx,We,Wf⟩:=m.ex;have fy:=hs.cN p.out;obtain ⟨h1,h2,ap,l1,l2,⟨es,clock,hg,I2⟩,hR⟩:=id fy.2.2.2;have hb:w.heap[g]?=some (.map es clock):=l1 g _ hg
 have jM:∀ (Ta:Array MapEntry) (B7:Nat),Ta.toList.map (fun e=>(e.key,e.val))=(mD k v mE).map (fun p=>(key p.1,p.2))→Sat e (kG key g (mD k v mE)::R) { w with heap:=w.heap.setIfInBounds g (.map Ta B7) }:=fun Ta B7 Wg=>by
  have cQ:g<w.heap.size:=(Array.getElem?_eq_some_iff.1 hb).1;refine fy.change rfl rfl rfl fun h1 hle hA=>?_
  obtain ⟨es2,Wh,R5,_⟩:=hA;refine ⟨fun b=>if b=g then some (.map Ta B7) else none,?_,⟨Ta,B7,by simp,Wg⟩,?_,?_⟩
  ·intro b o sz
   by_cases eb:b=g
   ·subst eb;simp only [if_true] at sz;rw [← sz];simp [hp,cQ]
   ·simp [eb] at sz
  ·intro b o sz hn
   by_cases eb:b=g
   ·subst eb;rw [R5] at hn;cases hn
   ·simp [eb] at sz
  ·intro b hn o ho;have:b≠g:=by rintro rfl;rw [R5] at hn;cases hn
   simp only [hp] at ho ⊢
   simp [Array.getElem?_setIfInBounds_ne this.symm,ho]
 have hex:∀ w',(Instr.mapUpdate t (.map (some g)) (key k) v).run P w=.ok () w'→K' (a.put none undef) w' →
  Oper.wp P ⟨none,.mapUpdate t x y z,ty,pos,af,gd⟩ a w K' Q':=fun w' hr hk =>
  lP (w':=w') (by simp [execOp,ha.ev hx,ha.ev hy,ha.ev hz,hr]) hk
 have hf:=We k es.toList mE w I2
 cases hp:tg k mE 0 with
 | none =>
  rw [hp] at hf
  refine hex { w with heap:=w.heap.setIfInBounds g (.map (es.push { key:=key k,val:=v,born:=clock }) (clock+1)) } ?_ (hK _ _ _ _ kk ha ?_)
  ·simp [Instr.mapUpdate,run_underlying hm,MapKept.run_getObj_map hb,Lx,hf,MapKept.run_setObj_map _ hb]
  ·refine jM _ _ ?_;rw [(AN (v:=v) hp).2]
   simp [I2]
 | some q =>
  obtain ⟨i,u⟩:=q;rw [hp] at hf
  obtain ⟨n,hi,_,D9,cQ,hkn⟩:=AO (v:=v) hp;rw [aC] at hi
  subst hi;have hlen:es.toList.length=mE.length:=by have:=congrArg List.length I2;simpa using this
  have Ry:∃ e',es[i]?=some e'∧e'.key=key k:=by
   have jP:i<es.size:=by rw [Array.length_toList] at hlen;omega
   refine ⟨es[i],Array.getElem?_eq_getElem jP,?_⟩;have:=congrArg (fun l=>l[i]?) I2;simp only [aI,Array.getElem?_toList,Array.getElem?_eq_getElem jP,ae cQ,Option.map_some,Option.some.injEq,Prod.mk.injEq] at this
   rw [this.1,hkn]
  obtain ⟨e',Ry,hek⟩:=Ry;refine hex { w with heap:=w.heap.setIfInBounds g (.map (es.modify i fun e=>{ e with key:=key k,val:=v }) clock) } ?_ (hK _ _ _ _ kk ha ?_)
  ·simp [Instr.mapUpdate,run_underlying hm,MapKept.run_getObj_map hb,Lx,hf,Ry,hek,Instr.keyThatStays,Wf,MapKept.run_setObj_map _ hb]
  ·refine jM _ _ ?_;rw [D9];apply List.ext_getElem?;intro j;have Lg:=congrArg (fun l=>l[j]?) I2;simp only [aI,Array.getElem?_toList,Array.getElem?_modify,List.getElem?_set] at Lg ⊢
   by_cases hj:i=j
   ·subst hj;rw [aH rfl,aH rfl,aH cQ,Ry]
    rfl
   ·rw [aB hj,aB hj];exact Lg
end
end Go.Bs
namespace Go.Proofs
open Go.Bs
abbrev dA:=List UInt8
def qM (l:List dA):dA:=(l.map enc).flatten
def mF (l:List dA):dA:=be l.length 4++qM l
theorem vy (ts:List dX):jo ts=qM (ts.map (·.2)):=by
 unfold jo qM;rw [List.map_map];rfl
theorem xR {l:List dA} {n:Nat} (h:∀ b∈l,b.length≤n):(qM l).length≤l.length*(n+2):=by
 induction l with
 | nil=>simp [qM]
 | cons b l ih =>
  have h1:=ih fun x hx=>h x (aU _ hx)
  have h2:=h b (List.mem_cons_self ..)
  show (enc b++qM l).length≤_
  rw [aa,iw,aR,Nat.add_mul]
  omega
def fj (old:List dA):List dA→List dA→List dA
 | fresh,[]=>fresh
 | fresh,b::l=>if b∈old++fresh then fj old fresh l else fj old (fresh++[b]) l
def lC (l:List dA) (b:dA):Nat:=l.idxOf b
theorem oG {old:List dA}:∀ {l fresh:List dA},∃ m,fj old fresh l=fresh++m
 | [],fresh=>⟨[],by simp [fj]⟩
 | b::l,fresh=>by
  unfold fj
  split
  ·exact oG
  ·obtain ⟨m,h⟩:=oG (old:=old) (l:=l) (fresh:=fresh++[b]);exact ⟨b::m,by rw [h];simp⟩
theorem rQ {old:List dA}:∀ {l fresh:List dA} {b:dA},b∈l→b∈old++fj old fresh l
 | x::l,fresh,b,h=>by
  unfold fj;rcases aQ.1 h with rfl|h
  ·split
   ·rename_i h1;obtain ⟨m,hm⟩:=oG (old:=old) (l:=l) (fresh:=fresh);rw [hm,← aM];exact List.mem_append_left _ h1
   ·obtain ⟨m,hm⟩:=oG (old:=old) (l:=l) (fresh:=fresh++[b]);rw [hm]
    simp
  ·split
   ·exact rQ h
   ·exact rQ h
theorem oH {old:List dA}:∀ {l fresh:List dA},(old++fresh).Nodup→(old++fj old fresh l).Nodup
 | [],fresh,h=>by simpa [fj] using h
 | b::l,fresh,h=>by
  unfold fj
  split
  ·exact oH h
  ·rename_i hb;refine oH ?_;rw [← aM];exact List.nodup_append.2 ⟨h,by simp,fun a ha c hc=>by rw [an.1 hc];rintro rfl;exact hb ha⟩
theorem rR {old:List dA}:∀ {l fresh:List dA},(fj old fresh l).length≤fresh.length+l.length
 | [],fresh=>by simp [fj]
 | b::l,fresh=>by
  unfold fj
  split
  ·have:=rR (old:=old) (l:=l) (fresh:=fresh);rw [aR];omega
  ·have:=rR (old:=old) (l:=l) (fresh:=fresh++[b]);rw [aa,aj] at this;rw [aR];omega
theorem vz {l m:List dA} {b:dA} (h:b∈l):lC (l++m) b=lC l b:=by unfold lC;rw [List.idxOf_append,aH h]
theorem Ly {l m:List dA} {b:dA} (h:¬ b∈l):lC (l++b::m) b=l.length:=by unfold lC;rw [List.idxOf_append,aB h];simp
def ie (l:List dA) (iB:Nat):List (dA × Value):=match l with
 | []=>[]
 | b::r=>(b,.int .i64 (iB:Int))::ie r (iB+1)
theorem j5 {b:dA}:∀ {l:List dA} {k:Nat},ic b (ie l k)=if b∈l then some (.int .i64 ((k+lC l b:Nat):Int)) else none
 | [],k=>by simp [ie,ic]
 | x::l,k=>by
  unfold ie ic
  by_cases h:x=b
  ·subst h;rw [aH rfl,aH (List.mem_cons_self ..)]
   simp [lC]
  ·rw [aB h,j5];have hb:(x == b)=false:=by simpa using h
   by_cases hm:b∈l
   ·rw [aH hm,aH (aU _ hm)];unfold lC;rw [List.idxOf_cons,hb];simp only [cond_false];rw [show k+1+List.idxOf b l=k+(List.idxOf b l+1) by omega]
   ·rw [aB hm,aB (fun q=>by
     rcases aQ.1 q with rfl|q;· exact h rfl
     ·exact hm q)]
theorem rS {b:dA}:∀ {l:List dA} {k:Nat},¬ b∈l→mD b (.int .i64 ((k+l.length:Nat):Int)) (ie l k)=ie (l++[b]) k
 | [],k,_=>by simp [ie,mD]
 | x::l,k,h=>by
  have hx:¬ x=b:=fun q=>h (by rw [q];exact List.mem_cons_self ..)
  have ih:=rS (l:=l) (k:=k+1) (fun q=>h (aU _ q))
  show mD b _ ((x,.int .i64 (k:Int))::ie l (k+1))=(x,.int .i64 (k:Int))::ie (l++[b]) (k+1)
  unfold mD;rw [aB hx,← ih,aR];rw [show k+(l.length+1)=k+1+l.length by omega]
structure gM where
 recs:List (List dA)
 keys:Nat
 last:Option jU
def gM.cI (s:gM):List dA:=s.recs.flatten
def gM.jb (s:gM):dA:=fi (s.recs.map mF)
def kT:jU:=⟨⟨0,[]⟩,⟨0,[],[]⟩⟩
def gM.dO (s:gM):jU:=s.last.getD kT
structure gM.ok (s:gM):Prop where
 full:∀ r∈s.recs,r≠[]
 nodup:s.cI.Nodup
 size:s.cI.length≤256
 short:∀ b∈s.cI,b.length≤200
 keys:s.keys≤16
 last:∀ x,s.last=some x→x.dd.right∧x.sig.right∧x.dd.size≤s.cI.length
end Go.Proofs
namespace Go.Proofs
attribute [local irreducible] Bs.cE Bs.Do Bs.O Bs.W Bs.Fin Bs.A Bs.Ct Bs.cF Bs.Rd Bs.Sat Bs.cM Bs.Ob Bs.dJ Bs.View Bs.cC Bs.Ex Bs.dI Bs.Pu Bs.eZ Bs.dK Bs.eh
open Go.Bs
open Tryz
theorem Gq (R:List cK) (e:World) (v:Value) (l:List dA) (hv:da R v (mF l)) (h0:l≠[]) (hl:l.length≤1000) (hb:∀ b∈l,b.length≤200) :
 Ct prog 68 #[v] e R (fun v' L'=>∃ ad c ts,v'=.tuple #[.slice ad ts.length c,.bool true]∧ts.map (·.2)=l∧L'=cU (.slice ad ts.length c) ts::cG ts::R):=by
 have Hv:=xR hb;have Qf:(mF l).length≤1000000:=by unfold mF;rw [aa,cY];omega
 have Lz:0<l.length:=List.length_pos_iff.2 h0;refine a8 (args:=[_]) func68 rfl ntmps68 results68 rfl ?_;refine wB ?_;refine aZ rfl rfl (jz _ e v (mF l) hv zo) ?_;rintro _ _ ⟨gr,rfl,rfl⟩;unfold mF;refine wB ?_;refine aZ rfl rfl (sV _ e gr l.length (qM l) zo) ?_;rintro _ _ ⟨rfl,rfl⟩;refine wB ?_;refine br (ι:=Nat × List dX × Option Addr × Nat) (fun i=>[(4,pt gr),(5,.slice i.2.2.1 i.2.1.length i.2.2.2),(6,.int .u32 ((l.length - i.1:Nat):Int))]) (fun i=>Reader gr ⟨qM (l.drop i.1),false⟩::cU (.slice i.2.2.1 i.2.1.length i.2.2.2) i.2.1::cG i.2.1::R) (fun i=>i.1≤l.length∧i.2.1.map (·.2)=l.take i.1) (fun i=>l.length - i.1) (0,[],none,0) ⟨aG _,by simp⟩ zS (bh (cn dC (di dZ 1))) ?_;rintro ⟨i,us,ad,c⟩ ⟨hi,fZ⟩;dsimp only at hi fZ ⊢
 have y7:us.length=i:=by have:=congrArg List.length fZ;rw [ab,aE] at this;omega
 by_cases cQ:i<l.length
 rotate_left
 ·have IS:i=l.length:=by omega
  rw [aF zo] at fZ
  rw [List.drop_eq_nil_of_le zo,IS,Nat.sub_self];refine wB ?_;refine aZ rfl rfl (xC _ e gr (qM [])) ?_;rintro _ _ ⟨rfl,rfl⟩;rw [ay (show qM []=[] from rfl)];refine wB ?_;exact aY (cU (.slice ad us.length c) us::cG us::R) rfl zE ⟨ad,c,us,rfl,fZ,rfl⟩
 have Du:qM (l.drop i)=enc (l[i]'cQ)++qM (l.drop (i+1)):=by rw [List.drop_eq_getElem_cons cQ];rfl
 have vQ:=hb _ (az cQ)
 have oI:(qM (l.drop (i+1))).length≤300000:=by
  have:=xR (l:=l.drop (i+1)) (n:=200) (fun b sz=>hb _ (aS sz));rw [aP] at this
  omega
 have jk:∀ w:Value,(us++[(w,l[i]'cQ)]).map (·.2)=l.take (i+1):=fun w=>by
  rw [ah,fZ,aA cQ]
  rfl
 have lO:((l.length - i:Nat):Int) - 1=((l.length - (i+1):Nat):Int):=by omega
 rw [Du]
 generalize l[i]'cQ=b at *
 refine wB ?_;refine aZ rfl rfl (uv _ e gr _) ?_;rintro _ _ ⟨rfl,rfl⟩;refine wB ?_;refine aZ rfl rfl (HI _ e gr b (qM (l.drop (i+1))) 65535 zo zo (by rw [aa,iw];omega)) ?_;rintro _ _ ⟨ep,c3,rfl,rfl⟩
 (repeat (refine wA ?_;intros))
 refine bD (bm rfl rfl rfl zP (bu .zero rfl zl) rfl rfl zO zm zo fun gZ c4 _=>?_)
 refine wB ?_;rw [lO,wrap_u32 zo zo];refine bi (i+1,us++[(.slice ep b.length c3,b)],gZ,c4) ⟨cQ,jk _⟩ zd ?_ ?_
 ·dsimp only;rw [aa,aj];exact zS
 ·exact cn (show cC _ (Reader gr ⟨qM (l.drop (i+1)),false⟩::dJ dZ 1 (.slice gZ (us.length+1) c4) (us.length+1) (us.map (·.1)++[.slice ep b.length c3])::cR (.slice ep b.length c3) b::cG us::R) from zE) (bh eV)
abbrev xS:TypeId:=143
abbrev nj:List UInt8→Value:=fun l=>.string (str l)
instance Wi:Gp prog 141 nj (.int .i64 0):=Qd underlying141 underlying9 zeroValue3
theorem jp {ts:List dX} {v:Value} {b:dA} {R:List cK}:cC (cR v b::cG ts::R) (cG (ts++[(v,b)])::R) :=
 cn (bz (.succ .zero) aX) (cn (bh (jx (a:=(v,b)))) eK)
structure xT where
 ts:List dX
 us:List dX
 ai:Option Addr
 ci:Nat
 al:Option Addr
 cl:Nat
abbrev th (vj vb vs vp:Value) (gm:Nat) (rest:List Value) (q:xT):List Value:=vj::vb::vs::vp::.slice q.ai q.ts.length q.ci::.slice q.al q.us.length q.cl::.map (some gm)::rest
abbrev ky (g:Nat) (vj vb vs vp:Value) (gm:Nat) (rest:List Value) (q:xT) (R:List cK):List cK:=cM g (th vj vb vs vp gm rest q) xS (0,0)::cU (.slice q.ai q.ts.length q.ci) q.ts::cU (.slice q.al q.us.length q.cl) q.us::kG nj gm (ie (q.ts.map (·.2)) 0)::R
theorem AP (R:List cK) (e:World) (g:Nat) (vj vb vs vp:Value) (gm:Nat) (c1 c2 c3 c4 c5 c6:Value) (q:xT) (v:Value) (ls:List dX) (hv:cF R 1 v ls.length (ls.map (·.1))) (ht:dE R ls) (hn:(q.ts.map (·.2)++ls.map (·.2)).Nodup) (hq:q.us.length=q.ts.length) (hl:q.ts.length+ls.length≤256) (hb:∀ a∈ls,a.2.length≤200) :
 Ct prog 69 #[pt g,v] e (ky g vj vb vs vp gm [c1,c2,c3,c4,c5,c6] q R) (fun v' L'=>v'=.bool true∧∃ (q2:xT) (vZ wC:List dX),q2.ts=q.ts++vZ∧q2.us=q.us++wC∧vZ.map (·.2)=ls.map (·.2)∧wC.map (·.2)=(ls.map (·.2)).map cZ∧L'=ky g vj vb vs vp gm [c1,c2,c3,c4,c5,c6] q2 (cG vZ::cG wC::R)):=by
 refine a7 ((hv.cN (show cC (ky g vj vb vs vp gm [c1,c2,c3,c4,c5,c6] q R) R from zE)).shape zo) ?_;rintro ⟨⟨ot,cap,rfl,h3,h4,h5,h6⟩,_⟩;simp only [maxLen] at h4
 refine a8 (args:=[_,_]) func69 rfl ntmps69 results69 rfl ?_;refine wB ?_;refine br (ι:=Nat × xT × List dX × List dX) (fun i=>[(0,pt g),(9,.slice ot ls.length cap),(10,.int .i64 (ls.length:Int)),(11,.int .i64 (i.1:Int))]) (fun i=>ky g vj vb vs vp gm [c1,c2,c3,c4,c5,c6] i.2.1 (cG i.2.2.1::cG i.2.2.2::R)) (fun i=>i.1≤ls.length∧i.2.1.ts=q.ts++i.2.2.1∧i.2.1.us=q.us++i.2.2.2∧i.2.2.1.map (·.2)=(ls.map (·.2)).take i.1∧i.2.2.2.map (·.2)=((ls.map (·.2)).take i.1).map cZ) (fun i=>ls.length - i.1) (0,q,[],[]) ⟨aG _,by simp,by simp,by simp,by simp⟩ zS (cn dC (cn dC zE)) ?_;rintro ⟨i,p,vZ,wC⟩ ⟨hi,fx,fZ,ze,LA⟩;dsimp only at hi fx fZ ze LA ⊢
 by_cases cQ:i<ls.length
 rotate_left
 ·rw [aF (by rw [ab];omega)] at ze LA
  refine wB ?_;exact aY _ rfl aX ⟨rfl,p,vZ,wC,fx,fZ,ze,LA,rfl⟩
 rcases h6 with h6|⟨gl,ol,rfl⟩
 ·omega
 have y7:vZ.length=i:=by have:=congrArg List.length ze;rw [ab,aE,ab] at this;omega
 have Wj:wC.length=i:=by have:=congrArg List.length LA;rw [ab,ab,aE,ab] at this;omega
 have hr:Rd R ⟨gl,ol+i,none⟩ (ls[i]'cQ).1:=hv.elem (by rw [aI,ae cQ];rfl);have js:=ht _ (az cQ);have vQ:=hb _ (az cQ)
 have Ao:(ls.map (·.2)).take (i+1)=(ls.map (·.2)).take i++[(ls[i]'cQ).2]:=by
  rw [aA (by rw [ab];exact cQ),List.getElem_map]
 have Fl:¬ (ls[i]'cQ).2∈p.ts.map (·.2):=fun h=>by
  rw [fx,ah,ze] at h
  have hs:ls.map (·.2)=(ls.map (·.2)).take i++(ls[i]'cQ).2::(ls.map (·.2)).drop (i+1):=by
   conv=>lhs;rw [← List.take_append_drop i (ls.map (·.2))]
   rw [List.drop_eq_getElem_cons (by rw [ab];exact cQ),List.getElem_map]
  rw [hs,← aM] at hn
  exact (List.nodup_append.1 hn).2.2 _ h _ (List.mem_cons_self ..) rfl
 have hlen:(p.ts.map (·.2)).length=p.ts.length:=ab ..;have yW:p.ts.length=q.ts.length+i:=by rw [fx,aa,y7]
 have abh:p.us.length=q.ts.length+i:=by rw [fZ,aa,Wj,hq]
 generalize ls[i]'cQ=y at *
 obtain ⟨yv,b⟩:=y;dsimp only at hr js vQ Ao Fl
 refine wB ?_;refine bl (id:=4) [11] (ky g vj vb vs vp gm [c1,c2,c3,c4,c5,c6] p (cG vZ::cG wC::R)) mixed ?_;have Tb:∀ A B C D E F,da (A::B::C::D::E::F::R) yv b:=fun A B C D E F=>js.tail.tail.tail.tail.tail.tail
 (refine tM 0 ?_;refine tN 1 ?_;refine tF 2 ?_;refine tL 3 ?_;refine tM 4 ?_;refine tk 5 _ rfl (cE.bytes rfl zB) ?_)
 refine tk 6 _ rfl (cE.k8 (key:=nj) (k:=b) rfl rfl zP) ?_;rw [j5,aB Fl]
 (refine tM 7 ?_;refine tk 8 _ rfl (bn rfl rfl) ?_;refine tk 9 _ rfl (bn rfl rfl) ?_;refine tA 10 ?_;(refine tO 11 ?_;refine dV (bj rfl) ?_))
 refine bf zK ?_;refine wB ?_;refine bl (id:=7) [11] (ky g vj vb vs vp gm [c1,c2,c3,c4,c5,c6] p (cG vZ::cG wC::R)) mixed ?_
 (refine tM 0 ?_;refine tN 1 ?_;refine tF 2 ?_;refine tL 3 ?_;refine tM 4 ?_;refine tk 5 _ rfl (cE.bytes rfl zB) ?_;refine tM 6 ?_;refine tN 7 ?_;refine tF 8 ?_;refine tL 9 ?_;refine tk 10 _ rfl (bO rfl) ?_)
 refine tO 11 ?_;refine Do.kS (key:=nj) (k:=b) rfl rfl rfl zP ?_;refine ⟨zN,?_⟩;have D9:=rS (l:=p.ts.map (·.2)) (k:=0) Fl;rw [aC,ab] at D9
 rw [D9];refine bf zK ?_;refine wB ?_;refine W.ir [(0,pt g),(6,yv),(9,.slice (some ⟨gl,ol,none⟩) ls.length cap),(10,.int .i64 (ls.length:Int)),(11,.int .i64 (i:Int))] zS ?_;refine bl (id:=8) [9,10,11] (cM g (th vj vb vs vp gm [c1,c2,c3,c4,c5,c6] p) xS (0,0)::R) mixed ?_
 (refine tM 0 ?_;refine tM 1 ?_;refine tN 2 ?_;refine tF 3 ?_;refine tL 4 ?_;refine tM 5 ?_)
 refine tO 6 ?_;refine bg rfl rfl (dy _ e yv b (js.cN zE) zo) ?_;rintro _ _ ⟨dW,k1,rfl,rfl⟩;refine ⟨fun _=>zE,?_⟩;refine tO 7 ?_;refine bF (n:=1) (z:=nY) (cs:=[.slice dW b.length k1]) rfl rfl rfl rfl zQ rfl (fun g1=>⟨fun _=>zE,?_⟩);refine tO 8 ?_;refine bm rfl rfl rfl zP (bu .zero rfl zl) rfl rfl zO zm zo fun dS k2 _=>?_
 refine ⟨fun _=>zE,?_⟩
 ((refine tO 9 ?_;refine dV (bp rfl) ?_);(refine tO 10 ?_;refine dV (bb rfl) ?_);(refine tO 11 ?_;refine tZ ?_;refine ⟨zN,?_⟩))
 refine bf zK ?_
 (repeat (refine wA ?_;intros))
 refine W.fo (L':=ky g vj vb vs vp gm [c1,c2,c3,c4,c5,c6] ⟨p.ts++[(.slice dW b.length k1,b)],p.us,dS,k2,p.al,p.cl⟩ (cG (vZ++[(.slice dW b.length k1,b)])::cG wC::R)) ?_ ?_
 ·simp only [ky,th,cU,aa,aj,ah,List.map_cons,List.map_nil];exact cn (show cC _ (cR (.slice dW b.length k1) b::cG vZ::cM g [vj,vb,vs,vp,.slice dS (p.ts.length+1) k2,.slice p.al p.us.length p.cl,.map (some gm),c1,c2,c3,c4,c5,c6] xS (0,0)::dJ dZ 1 (.slice dS (p.ts.length+1) k2) (p.ts.length+1) (p.ts.map (·.1)++[.slice dW b.length k1])::dJ dZ 1 (.slice p.al p.us.length p.cl) p.us.length (p.us.map (·.1))::kG nj gm (ie (p.ts.map (·.2)++[b]) 0)::cG wC::R) from zE) (cn jp zE)
 refine W.ir [(0,pt g),(6,yv),(9,.slice (some ⟨gl,ol,none⟩) ls.length cap),(10,.int .i64 (ls.length:Int)),(11,.int .i64 (i:Int))] zS ?_;have Wk:(p.ts++[((.slice dW b.length k1:Value),b)]).length=p.ts.length+1:=by rw [aa];rfl
 have Wl:p.ts++[((.slice dW b.length k1:Value),b)]=q.ts++(vZ++[(.slice dW b.length k1,b)]):=by rw [fx,aM]
 have Tc:(vZ++[((.slice dW b.length k1:Value),b)]).map (·.2)=(ls.map (·.2)).take (i+1):=by rw [Ao,ah,ze];rfl
 generalize p.ts++[((.slice dW b.length k1:Value),b)]=pt at *
 generalize vZ++[((.slice dW b.length k1:Value),b)]=Yp at *
 refine bl (id:=9) [9,10,11] (cM g (th vj vb vs vp gm [c1,c2,c3,c4,c5,c6] ⟨pt,p.us,dS,k2,p.al,p.cl⟩) xS (0,0)::R) mixed ?_
 (refine tM 0 ?_;refine tM 1 ?_;refine tN 2 ?_;refine tF 3 ?_;refine tL 4 ?_;refine tM 5 ?_)
 refine tO 6 ?_;refine bg rfl rfl (qt _ e yv b (js.cN zE) zo) ?_;rintro _ _ ⟨ep,k3,rfl,rfl⟩;refine ⟨fun _=>zE,?_⟩;have O1:[cZ b]=[b].map cZ:=rfl
 generalize cZ b=lb at O1 ⊢
 refine tO 7 ?_;refine bF (n:=1) (z:=nY) (cs:=[.slice ep lb.length k3]) rfl rfl rfl rfl zQ rfl (fun g1=>⟨fun _=>zE,?_⟩);refine tO 8 ?_;refine bm rfl rfl rfl zP (bu .zero rfl zl) rfl rfl zO zm zd fun gZ k4 _=>?_
 refine ⟨fun _=>zE,?_⟩
 ((refine tO 9 ?_;refine dV (bp rfl) ?_);(refine tO 10 ?_;refine dV (bb rfl) ?_);(refine tO 11 ?_;refine tZ ?_;refine ⟨zN,?_⟩))
 refine bf zK ?_;refine wB ?_;refine bi (i+1,⟨pt,p.us++[(.slice ep lb.length k3,lb)],dS,k2,gZ,k4⟩,Yp,wC++[(.slice ep lb.length k3,lb)]) ⟨cQ,Wl,by dsimp only;rw [fZ,aM],Tc,by dsimp only;rw [ah,LA,Ao,ah,← O1];rfl⟩ zd zS ?_;simp only [ky,th,cU,aa,aj,ah,List.map_cons,List.map_nil];exact cn (show cC _ (cR (.slice ep lb.length k3) lb::cG wC::cM g [vj,vb,vs,vp,.slice dS pt.length k2,.slice gZ (p.us.length+1) k4,.map (some gm),c1,c2,c3,c4,c5,c6] xS (0,0)::dJ dZ 1 (.slice dS pt.length k2) pt.length (pt.map (·.1))::dJ dZ 1 (.slice gZ (p.us.length+1) k4) (p.us.length+1) (p.us.map (·.1)++[.slice ep lb.length k3])::kG nj gm (ie (pt.map (·.2)) 0)::cG Yp::R) from zE) (cn jp zE)
abbrev tj (v:Value) (l:List Nat):cK:=dJ 3 1 v l.length (l.map fun n:Nat=>Value.int .i64 (n:Int))
structure vA (q:xT) (ls fs:List dX) (outs:List Nat) (i:Nat):Prop where
 fresh:fs.map (·.2)=fj (q.ts.map (·.2)) [] ((ls.map (·.2)).take i)
 sub:∀ a∈fs,a∈ls
 len:outs.length=i
 outs:∀ j (h:j<outs.length),outs[j]=lC (q.ts.map (·.2)++fs.map (·.2)) ((ls.map (·.2)).getD j [])
theorem m4 {old:List dA} {b:dA}:∀ {l fresh:List dA},fj old fresh (l++[b])=if b∈old++fj old fresh l then fj old fresh l else fj old fresh l++[b]
 | [],fresh=>by simp [fj]
 | x::l,fresh=>by
  rw [List.cons_append];unfold fj
  split
  ·exact m4
  ·exact m4
theorem vA.step {q:xT} {ls fs:List dX} {outs:List Nat} {i:Nat} (h:vA q ls fs outs i) (hi:i<ls.length) {a:dX} (ha:ls[i]'hi=a) (fS:a.2∈q.ts.map (·.2)++fs.map (·.2)):vA q ls fs (outs++[lC (q.ts.map (·.2)++fs.map (·.2)) a.2]) (i+1):=by
 obtain ⟨h1,h2,h3,h4⟩:=h
 have hn:(ls.map (·.2)).take (i+1)=(ls.map (·.2)).take i++[a.2]:=by
  rw [aA (by rw [ab];exact hi),List.getElem_map,ha]
 refine ⟨?_,h2,by rw [aa,h3];rfl,fun j hj=>?_⟩
 ·rw [hn,m4,← h1,aH fS]
 ·rw [aa,aj] at hj
  by_cases Ah:j<outs.length
  ·rw [List.getElem_append_left Ah,h4 j Ah]
  ·have:j=i:=by omega
   subst this;rw [List.getElem_append_right zo];simp only [h3,Nat.sub_self,List.getElem_cons_zero];rw [eR hi,ha]
theorem vA.new {q:xT} {ls fs:List dX} {outs:List Nat} {i:Nat} (h:vA q ls fs outs i) (hi:i<ls.length) {a:dX} (ha:ls[i]'hi=a) (fS:¬ a.2∈q.ts.map (·.2)++fs.map (·.2)):vA q ls (fs++[a]) (outs++[q.ts.length+fs.length]) (i+1):=by
 obtain ⟨h1,h2,h3,h4⟩:=h
 have hn:(ls.map (·.2)).take (i+1)=(ls.map (·.2)).take i++[a.2]:=by
  rw [aA (by rw [ab];exact hi),List.getElem_map,ha]
 have mG:(fs++[a]).map (·.2)=fj (q.ts.map (·.2)) [] ((ls.map (·.2)).take (i+1)):=by
  rw [hn,m4,← h1,aB fS,ah]
  rfl
 refine ⟨mG,fun x hx=>?_,by rw [aa,h3];rfl,fun j hj=>?_⟩
 ·rcases aJ.1 hx with hx|hx
  ·exact h2 x hx
  ·rw [an.1 hx,← ha];exact az hi
 ·rw [aa,aj] at hj
  by_cases Ah:j<outs.length
  ·rw [List.getElem_append_left Ah,h4 j Ah,ah,← aM,vz (l:=q.ts.map (·.2)++fs.map (·.2))];have xU:j<((ls.map (·.2)).take i).length:=by rw [aE,ab];omega
   rw [h1];have hm:=rQ (old:=q.ts.map (·.2)) (fresh:=[]) (az xU);rw [List.getElem_take] at hm
   rw [aL,ae (by rw [ab];omega)];exact hm
  ·have:j=i:=by omega
   subst this;rw [List.getElem_append_right zo];simp only [h3,Nat.sub_self,List.getElem_cons_zero];rw [eR hi,ha,ah,← aM,List.map_cons,Ly fS,aa,ab,ab]
theorem Gr (R:List cK) (e:World) (g:Nat) (vj vb vs vp:Value) (gm:Nat) (c1 c2 c3 c4 c5 c6:Value) (q:xT) (v:Value) (ls:List dX) (hv:cF R 1 v ls.length (ls.map (·.1))) (ht:dE R ls) (hl:ls.length≤1000) (hq:q.ts.length≤1000) :
 Ct prog 72 #[pt g,v] e (ky g vj vb vs vp gm [c1,c2,c3,c4,c5,c6] q R) (fun v' L'=>∃ (ao af:Option Addr) (co cf:Nat) (fs:List dX) (outs:List Nat),v'=.tuple #[.slice ao outs.length co,.slice af fs.length cf]∧vA q ls fs outs ls.length∧L'=tj (.slice ao outs.length co) outs::cU (.slice af fs.length cf) fs::ky g vj vb vs vp gm [c1,c2,c3,c4,c5,c6] q R):=by
 refine a7 ((hv.cN (show cC (ky g vj vb vs vp gm [c1,c2,c3,c4,c5,c6] q R) R from zE)).shape zo) ?_;rintro ⟨⟨ot,cap,rfl,h3,h4,h5,h6⟩,_⟩;simp only [maxLen] at h4
 refine a8 (args:=[_,_]) func72 rfl ntmps72 results72 rfl ?_;refine wB ?_;refine bD (Do.p6 nj rfl fun g2=>?_)
 refine wB ?_;refine br (ι:=Nat × List dX × List Nat × Option Addr × Nat × Option Addr × Nat) (fun i=>[(0,pt g),(6,.slice i.2.2.2.1 i.2.2.1.length i.2.2.2.2.1),(7,.slice i.2.2.2.2.2.1 i.2.1.length i.2.2.2.2.2.2),(8,.map (some g2)),(14,.slice ot ls.length cap),(15,.int .i64 (ls.length:Int)),(16,.int .i64 (i.1:Int))]) (fun i=>kG nj g2 (ie (i.2.1.map (·.2)) q.ts.length)::tj (.slice i.2.2.2.1 i.2.2.1.length i.2.2.2.2.1) i.2.2.1::cU (.slice i.2.2.2.2.2.1 i.2.1.length i.2.2.2.2.2.2) i.2.1::ky g vj vb vs vp gm [c1,c2,c3,c4,c5,c6] q R) (fun i=>i.1≤ls.length∧vA q ls i.2.1 i.2.2.1 i.1) (fun i=>ls.length - i.1) (0,[],[],none,0,none,0) ⟨aG _,⟨by simp [fj],fun a h=>by simp at h,rfl,fun j h=>by simp at h⟩⟩ zS (bh (cn (di dZ 1) (di 3 1))) ?_;rintro ⟨i,fs,outs,ao,co,af,cf⟩ ⟨hi,hS⟩;dsimp only at hi hS ⊢
 have y7:=hS.len
 have CY:fs.length≤i:=by
  have:=congrArg List.length hS.fresh;rw [ab] at this
  have h2:=rR (old:=q.ts.map (·.2)) (l:=(ls.map (·.2)).take i) (fresh:=[]);rw [aE,ab,List.length_nil] at h2
  omega
 by_cases cQ:i<ls.length
 rotate_left
 ·have:i=ls.length:=by omega
  subst this;refine wB ?_;exact aY _ rfl (cC.drop aX) ⟨ao,af,co,cf,fs,outs,rfl,hS,rfl⟩
 rcases h6 with h6|⟨gl,ol,rfl⟩
 ·omega
 have hr:Rd R ⟨gl,ol+i,none⟩ (ls[i]'cQ).1:=hv.elem (by rw [aI,ae cQ];rfl);have js:=ht _ (az cQ);have ft:=fun h=>hS.step cQ (a:=ls[i]'cQ) rfl h
 have Yq:=fun h=>hS.new cQ (a:=ls[i]'cQ) rfl h
 generalize ls[i]'cQ=y at *
 obtain ⟨yv,b⟩:=y;dsimp only at hr js ft Yq
 refine bG (cz (js.cN zE)) fun oy=>?_
 refine wB ?_;refine bl (id:=7) [11] (kG nj g2 (ie (fs.map (·.2)) q.ts.length)::tj (.slice ao outs.length co) outs::cU (.slice af fs.length cf) fs::ky g vj vb vs vp gm [c1,c2,c3,c4,c5,c6] q R) mixed ?_;have Tb:∀ A B C D E F G,da (A::B::C::D::E::F::G::R) yv b:=fun A B C D E F G=>js.tail.tail.tail.tail.tail.tail.tail
 (refine tM 0 ?_;refine tN 1 ?_;refine tF 2 ?_;refine tL 3 ?_;refine tM 4 ?_;refine tk 5 _ rfl (cE.bytes rfl zB) ?_)
 refine tk 6 _ rfl (cE.k8 (key:=nj) (k:=b) rfl rfl (.succ (.succ (.succ (.succ (.succ (.succ .zero))))))) ?_
 (refine tM 7 ?_;refine tk 8 _ rfl (bn rfl rfl) ?_;refine tk 9 _ rfl (bn rfl rfl) ?_;refine tA 10 ?_;(refine tO 11 ?_;refine dV (bj rfl) ?_))
 refine bf zK ?_;rw [j5];have nk:∀ n:Nat,∀ c∈[Value.int .i64 (n:Int)],c.oneCell'=true:=fun n c hc=>by rw [an.1 hc];rfl
 by_cases hA:b∈q.ts.map (·.2)
 ·rw [aH hA];have yV:lC (q.ts.map (·.2)++fs.map (·.2)) b=lC (q.ts.map (·.2)) b:=vz hA;have hn:=ft (List.mem_append_left _ hA);rw [yV] at hn
  rw [aC];simp only [Option.getD_some,Option.isSome_some]
  generalize lC (q.ts.map (·.2)) b=z at *
  (repeat (refine wA ?_;intros))
  refine bD (bm rfl rfl rfl zP (bu .zero rfl zl) rfl rfl (nk z) zm zo fun dW k1 _=>?_)
  refine wB ?_;refine bi (i+1,fs,outs++[z],dW,k1,af,cf) ⟨cQ,hn⟩ zd ?_ ?_
  ·dsimp only;rw [aa,aj];exact zS
  ·simp only [tj,aa,aj,ah,List.map_cons,List.map_nil];exact zE
 rw [aB hA];simp only [Option.getD_none,Option.isSome_none]
 by_cases hB:b∈fs.map (·.2)
 ·have yV:lC (q.ts.map (·.2)++fs.map (·.2)) b=q.ts.length+lC (fs.map (·.2)) b:=by
   unfold lC;rw [List.idxOf_append,aB hA,ab]
   omega
  have hn:=ft (List.mem_append_right _ hB);rw [yV] at hn
  refine wB ?_;refine bC _ (cE.k8 (key:=nj) (k:=b) rfl rfl .zero) rfl ?_;rw [j5,aH hB];simp only [Option.getD_some,Option.isSome_some]
  generalize q.ts.length+lC (fs.map (·.2)) b=z at *
  (repeat (refine wA ?_;intros))
  refine bD (bm rfl rfl rfl zP (bu .zero rfl zl) rfl rfl (nk z) zm zo fun dW k1 _=>?_)
  refine wB ?_;refine bi (i+1,fs,outs++[z],dW,k1,af,cf) ⟨cQ,hn⟩ zd ?_ ?_
  ·dsimp only;rw [aa,aj];exact zS
  ·simp only [tj,aa,aj,ah,List.map_cons,List.map_nil];exact zE
 have hn:=Yq (fun h=>(aJ.1 h).elim hA hB);refine wB ?_;refine bC _ (cE.k8 (key:=nj) (k:=b) rfl rfl .zero) rfl ?_;rw [j5,aB hB];simp only [Option.getD_none,Option.isSome_none];refine wB ?_;refine bD (Do.kS (key:=nj) (k:=b) rfl rfl rfl .zero ?_)
 have D9:=rS (l:=fs.map (·.2)) (k:=q.ts.length) hB;rw [ab] at D9
 have O2:((q.ts.length+fs.length:Nat):Int)=(q.ts.length:Int)+fs.length:=by omega
 rw [O2] at D9
 rw [D9]
 (repeat (refine wA ?_;intros))
 refine bD (bm rfl rfl rfl zP (bu .zero rfl zl) rfl rfl (fun c hc=>by rw [an.1 hc];exact oy) zm zo fun dW k1 _=>?_)
 rw [← O2]
 generalize hz:q.ts.length+fs.length=z at *
 (repeat (refine wA ?_;intros))
 refine bD (bm rfl rfl rfl zP (bu .zero rfl zl) rfl rfl (nk z) zm zo fun dS k2 _=>?_)
 refine wB ?_;refine bi (i+1,fs++[(yv,b)],outs++[z],dS,k2,dW,k1) ⟨cQ,hn⟩ zd ?_ ?_
 ·dsimp only;rw [aa,aj,aa,aj];exact zS
 ·simp only [tj,cU,aa,aj,ah,List.map_cons,List.map_nil];exact zE
end Go.Proofs
namespace Go.Bs
def po (m:Nat) (l:List (List UInt8)) (w:Bool):List (List UInt8) :=
 if m=l.length then (if w=true then [] else [dR l])
 else if h:2≤l.length then
  if m≤cO l.length then po m (l.take (cO l.length)) w++[dR (l.drop (cO l.length))]
  else po (m - cO l.length) (l.drop (cO l.length)) false++[dR (l.take (cO l.length))]
 else []
 termination_by l.length
 decreasing_by
 ·have:=dw h;rw [aE];omega
 ·have:=dw h;rw [aP];omega
def io (m n:Nat) (w:Bool):Nat :=
 if m=n then (if w=true then 0 else 1)
 else if h:2≤n then
  if m≤cO n then io m (cO n) w+1 else io (m - cO n) (n - cO n) false+1
 else 0
 termination_by n
 decreasing_by
 ·have:=dw h;omega
 ·have:=dw h;omega
def iA (m n:Nat) (w:Bool) (p:List (List UInt8)) (old:List UInt8):List UInt8 × List UInt8 :=
 if m=n then (if w=true then (old,old) else (ll p,ll p))
 else if h:2≤n then
  if m≤cO n then ((iA m (cO n) w p.dropLast old).1,ew (iA m (cO n) w p.dropLast old).2 (ll p))
  else (ew (ll p) (iA (m - cO n) (n - cO n) false p.dropLast old).1,ew (ll p) (iA (m - cO n) (n - cO n) false p.dropLast old).2)
 else (old,old)
 termination_by n
 decreasing_by
 all_goals (have:=dw h;omega)
section
variable {m n:Nat} {w:Bool} {l p:List (List UInt8)} {old:List UInt8}
theorem xV:po l.length l true=[]:=by rw [po,aH rfl,aH rfl]
theorem qB:po l.length l false=[dR l]:=by rw [po,aH rfl];rfl
theorem wD (h1:m≠l.length) (h:2≤l.length) (hm:m≤cO l.length):po m l w=po m (l.take (cO l.length)) w++[dR (l.drop (cO l.length))]:=by rw [po,aB h1,dif_pos h,aH hm]
theorem wE (h1:m≠l.length) (h:2≤l.length) (hm:¬ m≤cO l.length):po m l w=po (m - cO l.length) (l.drop (cO l.length)) false++[dR (l.take (cO l.length))]:=by rw [po,aB h1,dif_pos h,aB hm]
theorem qC:io n n true=0:=by rw [io,aH rfl,aH rfl]
theorem kU:io n n false=1:=by rw [io,aH rfl];rfl
theorem xW (h1:m≠n) (h:2≤n) (hm:m≤cO n):io m n w=io m (cO n) w+1:=by rw [io,aB h1,dif_pos h,aH hm]
theorem xX (h1:m≠n) (h:2≤n) (hm:¬ m≤cO n):io m n w=io (m - cO n) (n - cO n) false+1:=by rw [io,aB h1,dif_pos h,aB hm]
theorem rU:iA n n true p old=(old,old):=by rw [iA,aH rfl,aH rfl]
theorem p7:iA n n false p old=(ll p,ll p):=by rw [iA,aH rfl];rfl
theorem AQ (h1:m≠n) (h:2≤n) (hm:m≤cO n):iA m n w p old=((iA m (cO n) w p.dropLast old).1,ew (iA m (cO n) w p.dropLast old).2 (ll p)):=by rw [iA,aB h1,dif_pos h,aH hm]
theorem AR (h1:m≠n) (h:2≤n) (hm:¬ m≤cO n):iA m n w p old=(ew (ll p) (iA (m - cO n) (n - cO n) false p.dropLast old).1,ew (ll p) (iA (m - cO n) (n - cO n) false p.dropLast old).2):=by rw [iA,aB h1,dif_pos h,aB hm]
end
theorem lr:∀ (n m:Nat) (l:List (List UInt8)) (w:Bool),l.length=n→1≤m→m≤n→(po m l w).length=io m l.length w:=by
 intro n
 induction n using Nat.strongRecOn with
 | ind n ih =>
  intro m l w hn h1 h2
  by_cases he:m=l.length
  ·subst he
   cases w
   ·rw [qB,kU];rfl
   ·rw [xV,qC];rfl
  ·have h:2≤l.length:=by omega
   have hs:=dw h
   by_cases hm:m≤cO l.length
   ·have e1:(l.take (cO l.length)).length=cO l.length:=by rw [aE];omega
    rw [wD he h hm,xW he h hm,aa,aj,ih _ (by omega) m _ w e1 h1 hm,e1]
   ·have e1:(l.drop (cO l.length)).length=l.length - cO l.length:=aP;rw [wE he h hm,xX he h hm,aa,aj,ih _ (by omega) _ _ false e1 (by omega) (by omega),e1]
theorem nR:∀ (t n m:Nat) (w:Bool),n≤2 ^ t→io m n w≤t+1
 | 0,n,m,w,h=>by
  rw [Nat.pow_zero] at h
  rw [io]
  split
  ·split<;>omega
  ·rw [dif_neg (by omega)];omega
 | t+1,n,m,w,h=>by
  by_cases he:m=n
  ·subst he
   cases w
   ·rw [kU];omega
   ·rw [qC];omega
  by_cases h2:2≤n
  ·have hs:=dw h2;have hh:=u4 h h2
   by_cases hm:m≤cO n
   ·rw [xW he h2 hm];have:=nR t (cO n) m w hh;omega
   ·rw [xX he h2 hm];have:=nR t (n - cO n) (m - cO n) false (by omega);omega
  ·rw [io,aB he,dif_neg h2];omega
theorem Gs {m n:Nat} (h:2≤n) (h1:cO n<m) (h2:m≤n):cO m=cO n:=by
 have hs:=dw h;obtain ⟨j,hj⟩:∃ j,cO n=2 ^ j:=⟨(n - 1).log2,by unfold cO;rw [aB (by omega)]⟩
 rw [hj] at hs h1 ⊢
 have h0:=Nat.two_pow_pos j;unfold cO;rw [aB (by omega)]
 congr 1
 rw [Nat.log2_eq_iff (by omega)];have:2 ^ (j+1)=2*2 ^ j:=by rw [Nat.pow_succ,Nat.mul_comm]
 omega
theorem Gt:∀ (n m:Nat) (l:List (List UInt8)) (w:Bool) (old:List UInt8),l.length=n→1≤m→m≤n→(w=true→old=dR (l.take m))→iA m l.length w (po m l w) old=(dR (l.take m),dR l):=by
 intro n
 induction n using Nat.strongRecOn with
 | ind n ih =>
  intro m l w old hn h1 h2 ho
  by_cases he:m=l.length
  ·subst he;have e1:l.take l.length=l:=List.take_length;rw [e1] at ho ⊢
   cases w
   ·rw [qB,p7];rfl
   ·rw [rU,ho rfl]
  ·have h:2≤l.length:=by omega
   have hs:=dw h;have so:=je h
   by_cases hm:m≤cO l.length
   ·have e1:(l.take (cO l.length)).length=cO l.length:=by rw [aE];omega
    have e2:(l.take (cO l.length)).take m=l.take m:=by rw [List.take_take,Nat.min_eq_left hm]
    have e3:=ih _ (by omega) m (l.take (cO l.length)) w old e1 h1 hm (by rw [e2];exact ho);rw [e1,e2] at e3
    rw [wD he h hm,AQ he h hm,List.dropLast_concat,mA,e3,so]
   ·have e1:(l.drop (cO l.length)).length=l.length - cO l.length:=aP;have e3:=ih _ (by omega) (m - cO l.length) (l.drop (cO l.length)) false old e1 (by omega) (by omega) (fun h=>by cases h);rw [e1] at e3
    have e4:(l.take m).length=m:=by rw [aE];omega
    have e5:=je (l:=l.take m) (by omega);rw [e4,Gs h (by omega) (by omega),List.take_take,Nat.min_eq_left (by omega),List.drop_take] at e5
    rw [wE he h hm,AR he h hm,List.dropLast_concat,mA,e3,so,e5]
theorem AS:∀ (n m:Nat) (l:List (List UInt8)) (w:Bool),l.length=n→(∀ a∈l,a.length=32)→∀ a∈po m l w,a.length=32:=by
 intro n
 induction n using Nat.strongRecOn with
 | ind n ih =>
  intro m l w hn hh a ha
  by_cases he:m=l.length
  ·subst he
   cases w
   ·rw [qB] at ha;rw [an.1 ha];exact gH hh
   ·rw [xV] at ha;cases ha
  by_cases h:2≤l.length
  ·have hs:=dw h
   by_cases hm:m≤cO l.length
   ·rw [wD he h hm] at ha
    rcases aJ.1 ha with q|q
    ·exact ih _ (by rw [aE];omega) _ _ w rfl (fun b hb=>hh b (aN hb)) a q
    ·rw [an.1 q];exact gH fun b hb=>hh b (aS hb)
   ·rw [wE he h hm] at ha
    rcases aJ.1 ha with q|q
    ·exact ih _ (by rw [aP];omega) _ _ false rfl (fun b hb=>hh b (aS hb)) a q
    ·rw [an.1 q];exact gH fun b hb=>hh b (aN hb)
  ·rw [po,aB he,dif_neg h] at ha;cases ha
end Go.Bs
namespace Go.Bs
end Go.Bs
namespace Go.Proofs
open Go.Bs
attribute [local irreducible] Bs.cE Bs.Do Bs.O Bs.W Bs.Fin Bs.A Bs.Ct Bs.cF Bs.Rd Bs.Sat Bs.cM Bs.Ob Bs.dJ Bs.View Bs.cC Bs.Ex Bs.dI Bs.Pu Bs.eZ Bs.dK Bs.eh
theorem LB:∀ (n:Nat) (R:List cK) (e:World) (v:Value) (ts:List dX) (m:Nat) (w:Bool),ts.length=n→cF R 1 v ts.length (ts.map (·.1))→dE R ts→(∀ a∈ts,a.2.length≤1000000)→ts.length≤1000000→1≤m→m≤ts.length →
 Ct Tryz.prog 216 #[.int .i64 (m:Int),v,.bool w] e R (fun v' L'=>∃ ad c out,v'=.slice ad out.length c∧out.map (·.2)=po m (ts.map (·.2)) w∧L'=cU (.slice ad out.length c) out::cG out::R):=by
 intro n
 induction n using Nat.strongRecOn with
 | _ n ih =>
 intro R e v ts m w hn hv ht hb hl Nr BP;refine a7 (hv.shape zo) ?_;rintro ⟨⟨ad,cap,rfl,h3,h4,h5,h6⟩,_⟩;simp only [maxLen] at h4
 refine a8 (args:=[_,_,_]) Tryz.func216 rfl Tryz.ntmps216 Tryz.results216 rfl ?_
 by_cases he:m=ts.length
 ·subst he
  cases w
  ·refine wB ?_;refine aZ rfl rfl (j1 ts.length _ e _ ts rfl hv ht hb hl) ?_;rintro _ _ ⟨dS,c2,rfl,rfl⟩
   generalize so:dR (ts.map (·.2))=rt at *
   (repeat (refine wA ?_;intros))
   rename_i g;refine aY (cU (.slice (some ⟨g,0,none⟩) [((Value.slice dS rt.length c2,rt):dX)].length 1) [((Value.slice dS rt.length c2,rt):dX)]::cG [((Value.slice dS rt.length c2,rt):dX)]::R) rfl ?_ ⟨some ⟨g,0,none⟩,1,[((Value.slice dS rt.length c2,rt):dX)],rfl,?_,rfl⟩
   ·refine cn (fW (n:=1) (k:=1) (cap:=1) zo zl rfl) (bh (jx (a:=(Value.slice dS rt.length c2,rt))))
   ·have:=qB (l:=ts.map (·.2));rw [ab,so] at this
    rw [this];rfl
  ·refine wB ?_;exact aY (cU nY []::cG []::R) rfl (cn dC (di _ _)) ⟨none,0,[],rfl,by have:=xV (l:=ts.map (·.2));rw [ab] at this;rw [this];rfl,rfl⟩
 have h2:2≤ts.length:=by omega
 refine wB ?_;refine aZ rfl rfl (my R e ts.length zo) ?_;rintro _ _ ⟨rfl,rfl⟩;rw [jd];have hs:=dw h2;have ui:=fun h=>wD (l:=ts.map (·.2)) (m:=m) (w:=w) (by rw [ab];exact he) (by rw [ab];exact h2) h
 have IZ:=fun h=>wE (l:=ts.map (·.2)) (m:=m) (w:=w) (by rw [ab];exact he) (by rw [ab];exact h2) h
 rw [ab,← List.map_take,← List.map_drop] at ui IZ
 have BF:=iJ hv (k:=cO ts.length) zo;have yY:=mj hv (k:=cO ts.length) zo
 generalize cO ts.length=k at *
 have K2:(ts.take k).length=k:=by rw [aE];omega
 have yZ:(ts.drop k).length=ts.length - k:=aP
 by_cases xt:m≤k
 ·refine wB ?_;refine bE (id:=7) [12] Tryz.mixed ?_
  (refine tM 0 ?_;refine tM 1 ?_;refine tM 2 ?_;refine tk 3 _ rfl (cE.gY rfl rfl zo zo) ?_;refine tM 4 ?_;refine tM 6 ?_;refine tM 7 ?_;refine tk 8 _ rfl (cE.jw rfl rfl zo zo) ?_)
  refine tO 5 ?_;refine bg rfl rfl (ih k zo R e _ (ts.take k) m w K2 BF (gF ht fun x hx=>aN hx) (fun a ha=>hb a (aN ha)) zo Nr zo) ?_;rintro _ _ ⟨dW,c1,out,rfl,ho,rfl⟩
  have y7:out.length≤1000000:=by
   have h7:=congrArg List.length ho;rw [ab,lr k m ((ts.take k).map (·.2)) w (by rw [ab];exact K2) Nr xt] at h7
   have:=nR 20 ((ts.take k).map (·.2)).length m w (by rw [ab];omega)
   omega
  refine ⟨fun _=>zE,?_⟩;refine tO 9 ?_;refine bg rfl rfl (j1 (ts.length - k) _ e _ (ts.drop k) yZ yY.tail.tail (dE.tail (dE.tail (gF ht fun x hx=>aS hx))) (fun a ha=>hb a (aS ha)) zo) ?_;rintro _ _ ⟨dS,c2,rfl,rfl⟩;refine ⟨fun _=>zE,?_⟩
  generalize so:dR ((ts.drop k).map (·.2))=rt at *
  refine tO 10 ?_;refine bF (n:=1) rfl rfl rfl rfl zQ rfl (fun g2=>⟨fun _=>zE,?_⟩);refine tO 11 ?_;refine bm rfl rfl rfl (.succ (.succ .zero)) (bQ (n:=1) (c:=1) .zero rfl zl) rfl rfl zO zm zo fun ep c3 _=>⟨fun _=>zE,?_⟩
  ((refine tO 12 ?_;refine dV (bj rfl) ?_))
  refine bf zK ?_;refine wB ?_;refine aY (cU (.slice ep (out++[((Value.slice dS rt.length c2,rt):dX)]).length c3) (out++[((Value.slice dS rt.length c2,rt):dX)])::cG (out++[((Value.slice dS rt.length c2,rt):dX)])::R) rfl (cn zE eV) ⟨ep,c3,out++[((Value.slice dS rt.length c2,rt):dX)],by rw [aa,aj];rfl,by rw [ah,ho,ui xt];rfl,rfl⟩
 ·refine wB ?_;refine bE (id:=8) [13] Tryz.mixed ?_
  (refine tM 0 ?_;refine tM 1 ?_;refine tk 2 _ rfl (cE.jL rfl rfl zo) ?_;refine tM 3 ?_;refine tM 4 ?_;refine tk 5 _ rfl (cE.jw rfl rfl zo zo) ?_;refine tM 7 ?_;refine tM 8 ?_;refine tk 9 _ rfl (cE.gY rfl rfl zo zo) ?_)
  rw [show ((m:Nat):Int) - ((k:Nat):Int)=((m - k:Nat):Int) by omega];refine tO 6 ?_;refine bg rfl rfl (ih (ts.length - k) zo R e _ (ts.drop k) (m - k) false yZ yY (gF ht fun x hx=>aS hx) (fun a ha=>hb a (aS ha)) zo zo zo) ?_;rintro _ _ ⟨dW,c1,out,rfl,ho,rfl⟩
  have y7:out.length≤1000000:=by
   have h7:=congrArg List.length ho;rw [ab,lr (ts.length - k) (m - k) ((ts.drop k).map (·.2)) false (by rw [ab];exact yZ) zo zo] at h7
   have:=nR 20 ((ts.drop k).map (·.2)).length (m - k) false (by rw [ab];omega)
   omega
  refine ⟨fun _=>zE,?_⟩;refine tO 10 ?_;refine bg rfl rfl (j1 k _ e _ (ts.take k) K2 BF.tail.tail (dE.tail (dE.tail (gF ht fun x hx=>aN hx))) (fun a ha=>hb a (aN ha)) zo) ?_;rintro _ _ ⟨dS,c2,rfl,rfl⟩;refine ⟨fun _=>zE,?_⟩
  generalize so:dR ((ts.take k).map (·.2))=rt at *
  refine tO 11 ?_;refine bF (n:=1) rfl rfl rfl rfl zQ rfl (fun g2=>⟨fun _=>zE,?_⟩);refine tO 12 ?_;refine bm rfl rfl rfl (.succ (.succ .zero)) (bQ (n:=1) (c:=1) .zero rfl zl) rfl rfl zO zm zo fun ep c3 _=>⟨fun _=>zE,?_⟩
  ((refine tO 13 ?_;refine dV (bj rfl) ?_))
  refine bf zK ?_;refine wB ?_;refine aY (cU (.slice ep (out++[((Value.slice dS rt.length c2,rt):dX)]).length c3) (out++[((Value.slice dS rt.length c2,rt):dX)])::cG (out++[((Value.slice dS rt.length c2,rt):dX)])::R) rfl (cn zE eV) ⟨ep,c3,out++[((Value.slice dS rt.length c2,rt):dX)],by rw [aa,aj];rfl,by rw [ah,ho,IZ xt];rfl,rfl⟩
def iS (l:List (List UInt8)) (m:Nat):List (List UInt8):=if 0<m∧m<l.length then po m l true else []
theorem Jn (R:List cK) (e:World) (v:Value) (ts:List dX) (n:Int) (hn:-9223372036854775808≤n∧n≤9223372036854775807) (hv:cF R 1 v ts.length (ts.map (·.1))) (ht:dE R ts) (hb:∀ a∈ts,a.2.length≤1000000) (hl:ts.length≤1000000) :
 Ct Tryz.prog 135 #[v,.int .i64 n] e R (fun v' L' =>
  (¬ (0≤n∧n≤ts.length)∧v'=.tuple #[.agg #[.int .i64 0,.int .i64 0,nY],.int .i64 1]∧R=L') ∨
  (0≤n∧n≤ts.length∧∃ ad c out,v'=.tuple #[.agg #[.int .i64 n,.int .i64 (ts.length:Int),.slice ad out.length c],.int .i64 0]∧out.map (·.2)=iS (ts.map (·.2)) n.toNat∧L'=cU (.slice ad out.length c) out::cG out::R)):=by
 refine a7 (hv.shape zo) ?_;rintro ⟨⟨ad,cap,rfl,h3,h4,h5,h6⟩,_⟩;refine bI (args:=[_,_]) Tryz.func135 rfl Tryz.ntmps135 Tryz.results135 rfl ?_
 by_cases kQ:0≤n∧n≤ts.length
 rotate_left
 ·by_cases h0:n<0
  ·(repeat (refine wA ?_;intros))
   apply bB;exact zV;exact ⟨R,zE,.inl ⟨kQ,rfl,rfl⟩⟩
  ·(repeat (refine wA ?_;intros))
   apply bB;exact zV;exact ⟨R,zE,.inl ⟨kQ,rfl,rfl⟩⟩
 obtain ⟨h0,cQ⟩:=kQ;obtain ⟨m,rfl⟩:=Int.eq_ofNat_of_zero_le h0;rw [Int.toNat_natCast]
 by_cases fS:0<m∧m<ts.length
 ·obtain ⟨Wm,Nr⟩:=fS
  (repeat (refine wA ?_;intros))
  refine aZ rfl rfl (LB ts.length _ e _ ts m true rfl hv.tail.tail ht.tail.tail hb hl Wm zo) ?_;rintro _ _ ⟨dW,c1,out,rfl,ho,rfl⟩;refine wB ?_;apply bB;exact zV;exact ⟨cU (.slice dW out.length c1) out::cG out::R,zE,.inr ⟨h0,cQ,dW,c1,out,rfl,by rw [ho,iS,aH ⟨Wm,by rw [ab];exact Nr⟩],rfl⟩⟩
 ·have hg:iS (ts.map (·.2)) m=[]:=by rw [iS,ab,aB fS]
  by_cases Wm:0<m
  ·(repeat (refine wA ?_;intros))
   apply bB;exact zV;exact ⟨cU nY []::cG []::R,cn (show cC _ R from zE) (cn dC (di _ _)),.inr ⟨h0,cQ,none,0,[],rfl,by rw [hg];rfl,rfl⟩⟩
  ·(repeat (refine wA ?_;intros))
   apply bB;exact zV;exact ⟨cU nY []::cG []::R,cn (show cC _ R from zE) (cn dC (di _ _)),.inr ⟨h0,cQ,none,0,[],rfl,by rw [hg];rfl,rfl⟩⟩
end Go.Proofs
