/- The contracts of shifted and guess. The contract of reduce. 'append(empty, x...)' of a row of digits: a copy in memory of its own. A load in a region that draws its order may be taken first, where all that may come before it are loads too. A region that draws its order: a set of operations that each make a value and only add to the world, in whatever order. Nat variables in memory; the copy of a row in a region that draws its order. The contract of DivMod: the divisor 0, a divisor greater than the number, one digit. -/
import Derived.Test.YtggfmklppkioeaaGreatP01
import Derived.WalkKit
import Derived.Deep.RegionWith
import Derived.Below
import Derived.Deep.RegionLawGrows
namespace Go.Proofs.YtggfmklppkioeaaGreat
set_option linter.unusedSimpArgs false
set_option linter.unusedVariables false
set_option maxRecDepth 100000
open Go.RowKit
def dE (N s k:Nat):Nat:=N % 4294967296^k*2^s
theorem shAt_lt (N s k:Nat) (hs:s<32):dE N s k<4294967296^(k+1):=by
 unfold dE;rw[Nat.pow_succ];exact Nat.mul_lt_mul'' (Nat.mod_lt _ (cG k)) (Nat.lt_of_lt_of_le (Nat.pow_lt_pow_right (by decide) hs) (by decide))
theorem yX (N s k:Nat):dE N s (k+1)=dE N s k+4294967296^k*(D N k*2^s):=by
 unfold dE;rw[ct];grind
theorem tx (N s k:Nat):D (dE N s k) k<2^s:=by
 have h:dE N s k / 4294967296^k<2^s:=by
  rw[Nat.div_lt_iff_lt_mul (cG k),Nat.mul_comm];unfold dE;exact Nat.mul_lt_mul_of_pos_right (Nat.mod_lt _ (cG k)) (Nat.pow_pos (by decide))
 exact Nat.lt_of_le_of_lt (Nat.mod_le _ _) h
theorem yY (N s k:Nat) (hs:s<32):
  upd (upd (dE N s k) k (D (dE N s k) k+(D N k*2^s) % 4294967296)) (k+1) (D N k*2^s / 4294967296)=dE N s (k+1)∧
  D (dE N s k) k+(D N k*2^s) % 4294967296<4294967296∧D N k*2^s / 4294967296<4294967296:=by
 have hp:2^s ∣ 4294967296:=by
  have:(4294967296:Nat)=2^s*2^(32 - s):=by rw[←Nat.pow_add,show s+(32 - s)=32 by omega]
  rw[this];exact Nat.dvd_mul_right _ _
 have h1:D (dE N s k) k+(D N k*2^s) % 4294967296<4294967296:=by
  have ht:=tx N s k;have hd:2^s ∣(D N k*2^s) % 4294967296:=(Nat.dvd_mod_iff hp).2 (Nat.dvd_mul_left _ _);have hlt:(D N k*2^s) % 4294967296<4294967296:=Nat.mod_lt _ (by decide);obtain⟨c,hc⟩:=hd;obtain⟨e,he⟩:=hp;rw[hc]at hlt⊢;rw[he]at hlt⊢;have hce:c<e:=Nat.lt_of_mul_lt_mul_left hlt;have:2^s*(c+1)≤2^s*e:=Nat.mul_le_mul_left _ hce;rw[Nat.mul_add]at this;omega
 have h2:D N k*2^s / 4294967296<4294967296:=by
  rw[Nat.div_lt_iff_lt_mul (by decide)];exact Nat.mul_lt_mul'' (dD N k) (Nat.lt_of_lt_of_le (Nat.pow_lt_pow_right (by decide) hs) (by decide))
 refine⟨?_,h1,h2⟩;have e1:=eh (dE N s k) k (D (dE N s k) k+(D N k*2^s) % 4294967296);have e2:=eh (upd (dE N s k) k (D (dE N s k) k+(D N k*2^s) % 4294967296)) (k+1) (D N k*2^s / 4294967296);have e3:D (upd (dE N s k) k (D (dE N s k) k+(D N k*2^s) % 4294967296)) (k+1)=0:=by
  rw[fD _ _ _ _ h1 (by omega)];exact nH (shAt_lt N s k hs)
 rw[e3,Nat.mul_zero,Nat.add_zero]at e2;rw[e2,yX];have e4:=Nat.div_add_mod (D N k*2^s) 4294967296;rw[Nat.pow_succ];generalize upd (dE N s k) k (D (dE N s k) k+(D N k*2^s) % 4294967296)=u at *;generalize D N k*2^s=t at *;generalize t / 4294967296=q at *;generalize t % 4294967296=r at *;generalize dE N s k=z at *;generalize 4294967296^k=P at *
 grind
theorem sh_or (N s k:Nat) (hs:s<32) (h2:D (dE N s k) k+(D N k*2^s) % 4294967296<4294967296):
  bits BinOp.or IntKind.u32 ((D (dE N s k) k:Nat):Int) (((D N k*2^s) % 4294967296:Nat):Int)=((D (dE N s k) k+(D N k*2^s) % 4294967296:Nat):Int):=by
 have hp:2^s ∣ 4294967296:=by
  have:(4294967296:Nat)=2^s*2^(32 - s):=by rw[←Nat.pow_add,show s+(32 - s)=32 by omega]
  rw[this];exact Nat.dvd_mul_right _ _
 have hd:2^s ∣(D N k*2^s) % 4294967296:=(Nat.dvd_mod_iff hp).2 (Nat.dvd_mul_left _ _);rw[u32_or_nat _ _ (dD _ _) (Nat.mod_lt _ (by decide)),Nat.or_comm,nat_join s _ _ (Nat.mod_eq_zero_of_dvd hd) (tx N s k),Nat.add_comm]
def RetRow (W:World) (L N:Nat) (e:Ending) (w':World):Prop:=
 ∃g,e= .returned (.slice (some ⟨g,0,none⟩) L L)∧W.heap.size≤g∧aU w' g L N∧Below W.heap.size W w'
theorem qB (a:Option Addr) (L cap N s:Nat) (w:World) (ra:Rw w a L N) (hL:L≤1000000000000) (hs:s<32):
  Calls Tryz.prog 243 #[.slice a L cap,.int .i64 (s:Int)] w fun e w'=>RetRow w (L+1) (N*2^s) e w':=by
 go_enter Tryz.func243,Tryz.ntmps243
 go_upto_region 1 with(fail)
 go_cut [5] (fun s5 wx=>∃g,s5= .slice (some ⟨g,0,none⟩) (L+1) (L+1)∧aU wx g (L+1) 0∧Below w.heap.size w wx∧w.heap.size≤g∧g<wx.heap.size)
 case first=>
  have hown:=aU.made w (L+1);go_wp2_with (at_make;refine bK rfl _ _ rfl _ _ _ _ (L+1) rfl rfl (by omega) (by omega) (by omega) ?_)
  go_meet;case rel=>exact⟨_,rfl,hown,(Below.refl _ _).alloc (Nat.le_refl _) _,Nat.le_refl _,by simp⟩
 case rest=>
  obtain⟨g,rfl,hown,hbel,hwg,hgs⟩:=hcut;go_wp2_with fail
  go_loopw [15] (fun s15 wr=>∃k:Nat,k≤L∧s15= .int .i64 k∧aU wr g (L+1) (dE N s k)∧Below g wc wr)
   (fun i _=>L - (intOf i).toNat)
  case atStart=>exact⟨0,Nat.zero_le _,rfl,by unfold dE;simpa [Nat.mod_one]using hown,Below.refl _ _⟩
  case round=>
   obtain⟨k,hk,rfl,ho,hbr⟩:=hrel;by_cases hlt:k<L
   ·have rar:=ra.mono (hbel.trans (hbr.mono hwg));obtain⟨b1,o1,rfl,h1⟩:=rar.cells (by omega);have c1:=h1 k hlt;have c3:=ho.cell (p:=k) (by omega);have c4:=ho.cell (p:=k+1) (by omega);have f3:=ho.frozen k;have f4:=ho.frozen (k+1);have hdx:=dD N k;obtain⟨HS,hb1,hb2⟩:=yY N s k hs;have hor:=sh_or N s k hs hb1;have ht:D N k*2^s<4294967296*4294967296:=Nat.mul_lt_mul'' hdx (Nat.lt_of_lt_of_le (Nat.pow_lt_pow_right (by decide) hs) (by decide));have hst:=((ho.store (p:=k) (by omega) hb1).store (p:=k+1) (by omega) hb2);rw[HS]at hst;clear HS;have hst':=Lib.hid hst;have hor':=Lib.hid hor;have hbs:=(hbr.setCell (p:=⟨g,k,none⟩) (Nat.le_refl _) (.int .u32 ((D (dE N s k) k+(D N k*2^s) % 4294967296:Nat):Int))).setCell (p:=⟨g,k+1,none⟩) (Nat.le_refl _) (.int .u32 ((D N k*2^s / 4294967296:Nat):Int));clear hst hor;go_wp2;have e1:IntKind.u64.wrap (((D N k:Nat):Int)*2^s)=((D N k*2^s:Nat):Int):=by
     have:(((D N k:Nat):Int)*2^s)=((D N k*2^s:Nat):Int):=by simp
     rw[this];rw[IntKind.wrap_u64];omega
    have e2:((D N k*2^s:Nat):Int) % 4294967296=(((D N k*2^s) % 4294967296:Nat):Int):=by omega
    have e3:((D N k*2^s:Nat):Int) / 4294967296 % 4294967296=((D N k*2^s / 4294967296:Nat):Int):=by omega
    rw[e1,e3,e2,hor'.out];go_roundw
    case rel=>exact⟨k+1,by omega,by go_num,hst'.out,hbs⟩
    case measure=>simp[intOf];omega
   ·obtain rfl:k=L:=by omega
    have e1:dE N s k=N*2^s:=by unfold dE;rw[Nat.mod_eq_of_lt ra.lt]
    rw[e1]at ho;clear e1;go_wp2;go_ret;exact⟨g,rfl,hwg,ho,hbel.trans (hbr.mono hwg)⟩
def fB (B T V2:Nat):Nat:=min (B - 1) (T / V2)
theorem yZ {B top next last first second q r:Nat} (hB:0<B) (hv:0<first) (he:q*first+r=top*B+next) (hq:fB B ((top*B+next)*B+last) (first*B+second)≤q)
  (hc:B≤q∨r*B+last<q*second):fB B ((top*B+next)*B+last) (first*B+second)+1≤q:=by
 have hV:0<first*B+second:=by have:=Nat.mul_pos hv hB;omega
 rcases hc with hc | hc
 ·unfold fB at *;omega
 ·have h:((top*B+next)*B+last) / (first*B+second)<q:=by
   rw[Nat.div_lt_iff_lt_mul hV,←he];generalize top*B+next=t at *;clear hq;have:(q*first+r)*B+last=q*(first*B)+(r*B+last):=by grind
   rw[this,Nat.mul_add];omega
  unfold fB;omega
theorem qC {B top next last first second q r:Nat} (hB:0<B) (hv:0<first) (he:q*first+r=top*B+next) (hq:fB B ((top*B+next)*B+last) (first*B+second)≤q)
  (h1:q<B) (h2:q*second≤r*B+last):fB B ((top*B+next)*B+last) (first*B+second)=q:=by
 have hV:0<first*B+second:=by have:=Nat.mul_pos hv hB;omega
 have h:q≤((top*B+next)*B+last) / (first*B+second):=by
  rw[Nat.le_div_iff_mul_le hV,←he];have:(q*first+r)*B+last=q*(first*B)+(r*B+last):=by grind
  rw[this,Nat.mul_add];omega
 unfold fB at *;omega
theorem tA {B top next last first second q r:Nat} (hB:0<B) (hv:0<first) (he:q*first+r=top*B+next) (hq:fB B ((top*B+next)*B+last) (first*B+second)≤q)
  (h1:top≤first) (h2:next<B) (h3:second<B) (hr:B≤r):fB B ((top*B+next)*B+last) (first*B+second)=q:=by
 have h5:top*B≤first*B:=Nat.mul_le_mul_right _ h1
 have hqB:q<B:=by
  rcases Nat.lt_or_ge q B with h | h
  ·exact h
  ·have h6:=Nat.mul_le_mul_right first h
   rw[Nat.mul_comm B first]at h6;omega
 refine qC hB hv he hq hqB ?_;have h4:q*second≤B*B:=Nat.mul_le_mul (by omega) (by omega);have h6:B*B≤r*B:=Nat.mul_le_mul_right _ hr;omega
theorem tB {B top next last first second:Nat} (hB:0<B) (hv:0<first) (h3:last<B):fB B ((top*B+next)*B+last) (first*B+second)≤(top*B+next) / first:=by
 have hV:0<first*B+second:=by have:=Nat.mul_pos hv hB;omega
 have h5:((top*B+next)*B+last) / (first*B+second)<(top*B+next) / first+1:=by
  rw[Nat.div_lt_iff_lt_mul hV];have h1:=Nat.div_add_mod (top*B+next) first
  have h2:=Nat.mod_lt (top*B+next) hv;generalize (top*B+next) / first=q at *
  generalize (top*B+next) % first=r at *
  generalize top*B+next=t at *;have e:(q+1)*(first*B+second)=t*B+(first - r)*B+(q+1)*second:=by
   obtain⟨z,rfl⟩:∃z,first=r+z:=⟨first - r,by omega⟩
   rw[←h1,Nat.add_sub_cancel_left]
   grind
  rw[e];have h6:1*B≤(first - r)*B:=Nat.mul_le_mul_right _ (by omega);omega
 unfold fB;omega
theorem lt_cast {r l q s:Nat} (h:(r:Int)*4294967296+(l:Int)<(q:Int)*(s:Int)):r*4294967296+l<q*s:=by
 have e:((r*4294967296+l:Nat):Int)<((q*s:Nat):Int):=by simpa using h
 exact Int.ofNat_lt.1 e
theorem nlt_cast {r l q s:Nat} (h:¬(r:Int)*4294967296+(l:Int)<(q:Int)*(s:Int)):q*s≤r*4294967296+l:=
 Nat.le_of_not_lt fun h'=>h (by
  have e:((r*4294967296+l:Nat):Int)<((q*s:Nat):Int):=Int.ofNat_lt.2 h';simpa using e)
set_option maxRecDepth 20000 in
theorem c_guess (top next last first second:Nat) (w:World) (h1:top≤first) (h2:next<4294967296) (h3:last<4294967296) (h4:first<4294967296) (h5:second<4294967296) (h6:0<first):
  Calls Tryz.prog 245 #[.int .u32 (top:Int),.int .u32 (next:Int),.int .u32 (last:Int),.int .u32 (first:Int),.int .u32 (second:Int)] w fun e w'=>
   e= .returned (.int .u64 ((fB 4294967296 ((top*4294967296+next)*4294967296+last) (first*4294967296+second):Nat):Int))∧∃q,w'=w.drewN q:=by
 have hor:=or32 top next (by omega) (by omega) (by omega) (by omega);have hv:((first:Int) !=0)=true:=by rw[bne_iff_ne];omega
 have hdm:=Nat.div_add_mod (top*4294967296+next) first
 have hr:=Nat.mod_lt (top*4294967296+next) h6;have hs:=tB (B:=4294967296) (next:=next) (second:=second) (top:=top) (by decide) h6 h3;have htlt:top*4294967296+next<18446744073709551616:=by omega
 have hqlt:(top*4294967296+next) / first<18446744073709551616:=Nat.lt_of_le_of_lt (Nat.div_le_self _ _) htlt
 have HD:=Lib.hid hdm;clear hdm;have ei1:((top:Int)*4294967296+next) / (first:Int)=(((top*4294967296+next) / first:Nat):Int):=by simp
 have ei2:((top:Int)*4294967296+next) % (first:Int)=(((top*4294967296+next) % first:Nat):Int):=by simp
 have b1:0≤((top:Int)*4294967296+next) / (first:Int):=by rw[ei1];omega
 have b2:((top:Int)*4294967296+next) / (first:Int)<18446744073709551616:=by rw[ei1];omega
 have b3:0≤((top:Int)*4294967296+next) % (first:Int):=by rw[ei2];omega
 have b4:((top:Int)*4294967296+next) % (first:Int)<18446744073709551616:=by rw[ei2];omega
 have E1:=Lib.hid ei1;have E2:=Lib.hid ei2;clear ei1 ei2;go_enter Tryz.func245,Tryz.ntmps245
 go_wp2_with fail
 go_quiet (fail)
 go_wp2_with fail
 rw[E1.out,E2.out];clear b1 b2 b3 b4 hor;generalize (top*4294967296+next) / first=q0 at *
 generalize (top*4294967296+next) % first=r0 at *
 have HTQ:=fun(q r:Nat) (he:q*first+r=top*4294967296+next)=>yZ (B:=4294967296) (last:=last) (second:=second) (q:=q) (r:=r) (by decide) h6 he
 have HTE:=fun(q r:Nat) (he:q*first+r=top*4294967296+next)=>qC (B:=4294967296) (last:=last) (second:=second) (q:=q) (r:=r) (by decide) h6 he
 have HTB:=fun(q r:Nat) (he:q*first+r=top*4294967296+next) (hq)=>tA (B:=4294967296) (last:=last) (second:=second) (q:=q) (r:=r) (by decide) h6 he hq h1 h2 h5
 generalize htq:fB 4294967296 ((top*4294967296+next)*4294967296+last) (first*4294967296+second)=tq at *;have HTQ0:=Lib.hid htq;clear htq;have HTQ':=Lib.hid HTQ;have HTE':=Lib.hid HTE;have HTB':=Lib.hid HTB;clear HTQ HTE HTB;go_loopw [12,13] (fun s12 s13 wr=>∃q r:Nat,s12= .int .u64 (q:Int)∧s13= .int .u64 (r:Int)∧(q:Int)<18446744073709551616∧(r:Int)<4294967296∧Hid (q*first+r=top*4294967296+next)∧tq≤q∧wr=w.drewN nq) (fun i _ _=>(intOf i).toNat)
 case atStart=>exact⟨q0,r0,rfl,rfl,by omega,by omega,Lib.hid (by rw[Nat.mul_comm];exact HD.out),hs,rfl⟩
 case round=>
  obtain⟨q,r,rfl,rfl,hq,hrB,he,hle,rfl⟩:=hrel;clear hs hr hqlt HD E1 E2;have hor2:=or32 r last (by omega) (by omega) (by omega) (by omega);by_cases hc1:4294967296≤(q:Int)
  ·have hdec:=HTQ'.out q r he.out hle (.inl (by omega));by_cases hb:4294967296≤(r:Int)+(first:Int)
   ·skip
    have he':(q - 1)*first+(r+first)=top*4294967296+next:=by
     rw[←he.out];obtain⟨z,rfl⟩:∃z,q=z+1:=⟨q - 1,by omega⟩;rw[Nat.add_sub_cancel,Nat.add_mul];omega
    have HE':=Lib.hid he';clear he';have HF:=Lib.hid (HTB'.out (q - 1) (r+first) HE'.out (by omega) (by omega));go_upto_if 49 with(fail)
    go_wp2;go_ret;refine⟨?_,nq,rfl⟩;rw[HTQ0.out,HF.out];refine congrArg Ending.returned (congrArg (Value.int IntKind.u64) ?_);omega
   ·skip
    have he':(q - 1)*first+(r+first)=top*4294967296+next:=by
     rw[←he.out];obtain⟨z,rfl⟩:∃z,q=z+1:=⟨q - 1,by omega⟩;rw[Nat.add_sub_cancel,Nat.add_mul];omega
    have HE':=Lib.hid he';clear he';have hb':(r:Int)+(first:Int)<4294967296:=by omega
    go_upto_if 49 with(fail)
    go_wp2;go_roundw
    case rel=>exact⟨q - 1,r+first,by rw[show((q:Int) - 1)=((q - 1:Nat):Int)from by omega],by go_num,by omega,by omega,HE',by omega,by first | rfl | trivial⟩
    case measure=>simp[intOf];omega
  ·obtain⟨hx0,hx1⟩:=mul_bd q second (by omega) h5;have hc1':(q:Int)<4294967296:=by omega
   by_cases hc2:(r:Int)*4294967296+(last:Int)<(q:Int)*(second:Int)
   ·have hx2:=lt_cast hc2;have hdec:=HTQ'.out q r he.out hle (Or.inr hx2);clear hx2;by_cases hb:4294967296≤(r:Int)+(first:Int)
    ·skip
     have he':(q - 1)*first+(r+first)=top*4294967296+next:=by
      rw[←he.out];obtain⟨z,rfl⟩:∃z,q=z+1:=⟨q - 1,by omega⟩;rw[Nat.add_sub_cancel,Nat.add_mul];omega
     have HE':=Lib.hid he';clear he';have HF:=Lib.hid (HTB'.out (q - 1) (r+first) HE'.out (by omega) (by omega));go_upto_if 49 with(fail)
     go_wp2;go_ret;refine⟨?_,nq,rfl⟩;rw[HTQ0.out,HF.out];refine congrArg Ending.returned (congrArg (Value.int IntKind.u64) ?_);omega
    ·skip
     have he':(q - 1)*first+(r+first)=top*4294967296+next:=by
      rw[←he.out];obtain⟨z,rfl⟩:∃z,q=z+1:=⟨q - 1,by omega⟩;rw[Nat.add_sub_cancel,Nat.add_mul];omega
     have HE':=Lib.hid he';clear he';have hb':(r:Int)+(first:Int)<4294967296:=by omega
     go_upto_if 49 with(fail)
     go_wp2;go_roundw
     case rel=>exact⟨q - 1,r+first,by rw[show((q:Int) - 1)=((q - 1:Nat):Int)from by omega],by go_num,by omega,by omega,HE',by omega,by first | rfl | trivial⟩
     case measure=>simp[intOf];omega
   ·have hx2:=nlt_cast hc2;have HF:=Lib.hid (HTE'.out q r he.out hle (by omega) hx2);clear hx2;go_wp2;go_ret;refine⟨?_,nq,rfl⟩;rw[HTQ0.out,HF.out];rfl
theorem red_step (U0 U Ui q Vi x b c b' c' A R Q tl e d:Nat) (hQ:Q=A*R) (h0:U0+A*(q*Vi)=U+(b+c)*Q) (ht:q*x+c=tl+4294967296*c') (hs:e+tl+b=d+4294967296*b') (hu:Ui+Q*d=U0+Q*e):
  Ui+A*(q*(Vi+R*x))=U+(b'+c')*(Q*4294967296):=by grind
theorem red_top (U0 U Ui qV b c b' A R Q e d:Nat) (hQ:Q=A*R) (h0:U0+A*qV=U+(b+c)*Q) (hs:e+c+b=d+4294967296*b') (hu:Ui+Q*d=U0+Q*e):
  Ui+A*qV=U+b'*(Q*4294967296):=by grind
theorem red_back (U0 U Ui Vi x c c' A R Q e d:Nat) (hQ:Q=A*R) (h0:U0+c*Q=U+A*Vi) (hs:d+x+c=e+4294967296*c') (hu:Ui+Q*d=U0+Q*e):
  Ui+c'*(Q*4294967296)=U+A*(Vi+R*x):=by grind
theorem tC (U0 U Ui V c k A R Q e d:Nat) (hQ:Q=A*R) (h0:U0+c*Q=U+A*V) (hs:d+c=e+4294967296*k) (hu:Ui+Q*d=U0+Q*e):
  Ui+k*(Q*4294967296)=U+A*V:=by grind
theorem red_yes {U U' A V q:Nat} (hA:0<A) (hV:0<V) (h:U'+A*(q*V)=U) (hq:U / A / V≤q):q=U / A / V∧U'=U - A*(U / A / V*V):=by
 have h1:q*V≤U / A:=by rw[Nat.le_div_iff_mul_le hA,Nat.mul_comm];omega
 have h2:q≤U / A / V:=by rw[Nat.le_div_iff_mul_le hV];exact h1
 have h3:q=U / A / V:=by omega
 exact⟨h3,by rw[←h3];omega⟩
theorem red_no {U U' A V M q:Nat} (hA:0<A) (hV:0<V) (h:U'+A*(q*V)=U+M) (hU:U'<M) (hq:U / A / V≤q) (hq':q≤U / A / V+1):q=U / A / V+1:=by
 have h0:U<A*(q*V):=by omega
 have h1:U / A / V<q:=by
  rw[Nat.div_lt_iff_lt_mul hV,Nat.div_lt_iff_lt_mul hA,Nat.mul_comm];exact h0
 omega
theorem red_fin {U U' Uf A V M q k:Nat} (hA:0<A) (hV:0<V) (h:U'+A*((q+1)*V)=U+M) (hq:q=U / A / V) (hb:Uf+k*M=U'+A*V) (hUf:Uf<M) (hk:k≤1):Uf=U - A*(U / A / V*V):=by
 rw[←hq];have h1:q*V≤U / A:=by rw[hq];exact Nat.div_mul_le_self _ _
 have h2:A*(q*V)≤U:=by
  have:=Nat.mul_le_mul_left A h1;have:=Nat.mul_div_le U A;omega
 have h3:A*((q+1)*V)=A*(q*V)+A*V:=by grind
 rw[h3]at h;rcases Nat.le_one_iff_eq_zero_or_eq_one.1 hk with rfl | rfl
 ·simp only[Nat.zero_mul,Nat.add_zero]at hb;omega
 ·simp only[Nat.one_mul]at hb;omega
theorem xO (w:World) (row:Option Nat):w.grownBy w row:=⟨rfl,rfl,rfl,Nat.le_refl _,fun _ _ _=>rfl⟩
theorem gG {w wr:World} {g p:Nat} (h:w.grownBy wr (some g)) (v:Value):w.grownBy (wr.setCell ⟨g,p,none⟩ v) (some g):=
 ⟨h.os,h.tape,h.output,by simpa using h.size,fun k hk hne=>(Below.heap_setCell _ _ _ _ (fun e=>hne (by rw[e]))).trans (h.block k hk hne)⟩
theorem Dig.kept {w w':World} {b off L N:Nat} {row:Option Nat} (h:Dig w b off L N) (hg:w.grownBy w' row) (hne:some b≠row):Dig w' b off L N:=
 fun j hj=>hg.cell (h j hj) hne
def tD (x y c:Nat):Nat:=(x+8589934592 - y - c) % 4294967296
def tE (x y c:Nat):Nat:=if x<y+c then 1 else 0
theorem tF {x y c:Nat} (hx:x<4294967296) (hy:y<4294967296) (hc:c≤1):tD x y c+y+c=x+4294967296*tE x y c∧tD x y c<4294967296∧tE x y c≤1:=by
 unfold tD tE;split<;>omega
theorem tG (x y c:Nat) (w:World) (hx:x<4294967296) (hy:y<4294967296) (hc:c≤1):
  Calls Tryz.prog 203 #[.int .u32 (x:Int),.int .u32 (y:Int),.int .u32 (c:Int)] w fun e w'=>
   e= .returned (.tuple #[.int .u32 ((tD x y c:Nat):Int),.int .u32 ((tE x y c:Nat):Int)])∧w=w':=by
 refine(rP _ _ _ _ (by omega) (by omega) (by omega) (by omega) (by omega) (by omega)).mono ?_;rintro e w' ⟨rfl,rfl⟩;have e1:((x:Int) - y - c) % 4294967296=((tD x y c:Nat):Int):=by unfold tD;omega
 have e2:borrow (x:Int) (y:Int) (c:Int)=((tE x y c:Nat):Int):=by unfold tE borrow;split<;>split<;>omega
 rw[e1,e2];exact⟨rfl,rfl⟩
theorem c_add32n (x y c:Nat) (w:World) (hx:x<4294967296) (hy:y<4294967296) (hc:c≤1):
  Calls Tryz.prog 201 #[.int .u32 (x:Int),.int .u32 (y:Int),.int .u32 (c:Int)] w fun e w'=>
   e= .returned (.tuple #[.int .u32 (((x+y+c) % 4294967296:Nat):Int),.int .u32 (((x+y+c) / 4294967296:Nat):Int)])∧w=w':=by
 refine(rN _ _ _ _ (by omega) (by omega) (by omega) (by omega) (by omega) (by omega)).mono ?_;rintro e w' ⟨rfl,rfl⟩;exact⟨by simp,rfl⟩
def RetRed (W:World) (gu Lu U A V:Nat) (e:Ending) (w':World):Prop:=
 e= .returned (.int .u32 ((U / A / V:Nat):Int))∧aU w' gu Lu (U - A*(U / A / V*V))∧W.grownBy w' (some gu)
set_option maxHeartbeats 1000000 in
theorem c_reduce (gu Lu cu gv cv n at' U V q:Nat) (w:World) (hu:aU w gu Lu U) (hv:Dig w gv 0 n V) (hVn:V<4294967296^n) (hne:gv≠gu) (hL:at'+n<Lu) (hLu:Lu≤60000000000000) (hq:q<4294967296)
  (hV0:0<V) (hUm:U<4294967296^(at'+n+1)) (hq1:U / 4294967296^at' / V≤q) (hq2:q≤U / 4294967296^at' / V+1):
  Calls Tryz.prog 244 #[.slice (some ⟨gu,0,none⟩) Lu cu,.slice (some ⟨gv,0,none⟩) n cv,.int .i64 (at':Int),.int .u64 (q:Int)] w fun e w'=>RetRed w gu Lu U (4294967296^at') V e w':=by
 have HQ1:=Lib.hid hq1;have HQ2:=Lib.hid hq2;have HUM:=Lib.hid hUm;have HVN:=Lib.hid hVn;clear hq1 hq2 hUm hVn;go_enter Tryz.func244,Tryz.ntmps244
 go_wp2_with fail
 go_loopw [9,10,19] (fun s9 s10 s19 wr=>∃i Ui c b:Nat,i≤n∧s19= .int .i64 i∧s9= .int .u64 (c:Int)∧s10= .int .u32 (b:Int)∧c<4294967296∧b≤1∧aU wr gu Lu Ui∧w.grownBy wr (some gu)∧
   Hid (Ui<4294967296^(at'+n+1)∧Ui+4294967296^at'*(q*(V % 4294967296^i))=U+(b+c)*4294967296^(at'+i)))
  (fun _ _ i _=>n - (intOf i).toNat)
 case atStart=>exact⟨0,U,0,0,Nat.zero_le _,rfl,rfl,rfl,by decide,by decide,hu,xO _ _,Lib.hid ⟨HUM.out,by simp[Nat.mod_one]⟩⟩
 case round=>
  obtain⟨i,Ui,c,b,hi,rfl,rfl,rfl,hc,hb,ho,hgb,hinv⟩:=hrel;by_cases hlt:i<n
  ·have hvr:=hv.kept hgb (by simpa using hne);have c1:=hvr i hlt;have c2:=ho.cell (p:=at'+i) (by omega);have f2:=ho.frozen (at'+i);have hdx:=dD V i;have hdu:=dD Ui (at'+i);obtain⟨hx0,hx1⟩:=mul_bd q (D V i) hq hdx;simp only[Nat.zero_add]at c1;go_wp2_with fail
   have htl:(q*D V i+c) % 4294967296<4294967296:=Nat.mod_lt _ (by decide);have htc:(q*D V i+c) / 4294967296<4294967296:=by rw[Nat.div_lt_iff_lt_mul (by decide)];have e:((q*D V i:Nat):Int)≤18446744065119617025:=(by simpa using hx1);omega
   have hdm:=Lib.hid (Nat.mod_add_div (q*D V i+c) 4294967296);rw[show((q:Int)*((D V i:Nat):Int)+(c:Int)) % 4294967296=(((q*D V i+c) % 4294967296:Nat):Int)from by simp,show((q:Int)*((D V i:Nat):Int)+(c:Int)) / 4294967296=(((q*D V i+c) / 4294967296:Nat):Int)from by simp];generalize (q*D V i+c) % 4294967296=tl at *;generalize (q*D V i+c) / 4294967296=c' at *;refine(tG _ _ _ _ hdu htl hb).mono ?_;rintro e w1 ⟨rfl,rfl⟩;obtain⟨s1,s2,s3⟩:=tF hdu htl hb;have hs1:=Lib.hid s1;clear s1;generalize tD (D Ui (at'+i)) tl b=e at *;generalize tE (D Ui (at'+i)) tl b=b' at *;have hst:=ho.store (p:=at'+i) (by omega) s2;go_wp2;go_roundw
   case rel=>exact⟨i+1,_,c',b',by omega,by go_num,rfl,rfl,htc,s3,hst,gG hgb _,Lib.hid ⟨ii hinv.out.1 (by omega) s2,by
     have h:=red_step Ui U _ q (V % 4294967296^i) (D V i) b c b' c' (4294967296^at') (4294967296^i) (4294967296^(at'+i)) tl e _ (Nat.pow_add _ _ _) hinv.out.2 hdm.out.symm hs1.out (eh Ui (at'+i) e);rw[←Nat.pow_succ,←ct]at h;exact h⟩⟩
   case measure=>simp[intOf];omega
  ·obtain rfl:i=n:=by omega
   have c2:=ho.cell (p:=at'+i) (by omega);have f2:=ho.frozen (at'+i);have hdu:=dD Ui (at'+i);go_wp2_with fail
   refine(tG _ _ _ _ hdu hc hb).mono ?_;rintro e w1 ⟨rfl,rfl⟩;obtain⟨s1,s2,s3⟩:=tF hdu hc hb;have hs1:=Lib.hid s1;clear s1;generalize tD (D Ui (at'+i)) c b=e at *;generalize tE (D Ui (at'+i)) c b=b' at *;have hst:=ho.store (p:=at'+i) (by omega) s2;have hgb2:=gG (p:=at'+i) hgb (.int .u32 (e:Int));have hlt2:=ii hinv.out.1 (show at'+i<at'+i+1 by omega) s2;have htop:=red_top Ui U _ (q*V) b c b' (4294967296^at') (4294967296^i) (4294967296^(at'+i)) e _ (Nat.pow_add _ _ _) (by have:=hinv.out.2;rwa [Nat.mod_eq_of_lt HVN.out]at this) hs1.out (eh Ui (at'+i) e);rw[show 4294967296^(at'+i)*4294967296=4294967296^(at'+i+1)from(Nat.pow_succ ..).symm]at htop;have hfz:=hst.frozen (at'+i);have hce:=hst.cell (p:=at'+i) (by omega);generalize hU1:upd Ui (at'+i) e=U1 at *;have HTOP:=Lib.hid htop;have HLT2:=Lib.hid hlt2;clear htop hlt2 hU1;by_cases hb0:b'=0
   ·have hbb:(((b':Nat):Int)==0)=true:=by rw[beq_iff_eq];omega
    have HY:=Lib.hid (red_yes (cG at') hV0 (by have:=HTOP.out;rw[hb0]at this;simpa using this) HQ1.out);have HB0:=Lib.hid hb0;clear hb0;go_wp2;go_ret;rw[HY.out.2]at hst;refine⟨?_,hst,hgb2⟩;rw[←HY.out.1];exact congrArg Ending.returned (congrArg (Value.int IntKind.u32) (by omega))
   ·have hbb:(((b':Nat):Int)==0)=false:=by rw[beq_eq_false_iff_ne];omega
    have HB1:=Lib.hid (show b'=1 by omega);clear hb0;go_wp2_with fail
    clear c2 f2 hdu hfz hce hgb ho;generalize hwo:wr.setCell ⟨gu,at'+i,none⟩ (.int .u32 (e:Int))=wo at *;clear hwo
    go_loopw [14,77] (fun s14 s77 wq=>∃j Uj c2:Nat,j≤i∧s77= .int .i64 j∧s14= .int .u32 (c2:Int)∧c2≤1∧aU wq gu Lu Uj∧w.grownBy wq (some gu)∧
      Hid (Uj<4294967296^(at'+i+1)∧Uj+c2*4294967296^(at'+j)=U1+4294967296^at'*(V % 4294967296^j)))
     (fun _ s _=>i - (intOf s).toNat)
    case atStart=>exact⟨0,U1,0,Nat.zero_le _,rfl,rfl,by decide,hst,hgb2,Lib.hid ⟨HLT2.out,by rw[Nat.pow_zero,Nat.mod_one,Nat.mul_zero,Nat.zero_mul]⟩⟩
    case round=>
     obtain⟨j,Uj,c2,hj,rfl,rfl,hc2,hoj,hgj,hinj⟩:=hrel;have hduj:=dD Uj (at'+j);have cuj:=hoj.cell (p:=at'+j) (by omega);have fuj:=hoj.frozen (at'+j);by_cases hlt:j<i
     ·have hvr:=hv.kept hgj (by simpa using hne);have cvj:=hvr j hlt;have hdv:=dD V j;simp only[Nat.zero_add]at cvj;go_wp2_with fail
      refine(c_add32n _ _ _ _ hduj hdv hc2).mono ?_;rintro e2 w2 ⟨rfl,rfl⟩;have hs2:=Lib.hid (Nat.mod_add_div (D Uj (at'+j)+D V j+c2) 4294967296).symm;have hl2:(D Uj (at'+j)+D V j+c2) % 4294967296<4294967296:=Nat.mod_lt _ (by decide);have hc3:(D Uj (at'+j)+D V j+c2) / 4294967296≤1:=by omega
      generalize (D Uj (at'+j)+D V j+c2) % 4294967296=e2 at *;generalize (D Uj (at'+j)+D V j+c2) / 4294967296=c3 at *;have hst2:=hoj.store (p:=at'+j) (by omega) hl2;go_wp2;go_roundw
      case rel=>exact⟨j+1,_,c3,by omega,by go_num,rfl,hc3,hst2,gG hgj _,Lib.hid ⟨ii hinj.out.1 (by omega) hl2,by
        have h:=red_back Uj U1 _ (V % 4294967296^j) (D V j) c2 c3 (4294967296^at') (4294967296^j) (4294967296^(at'+j)) e2 _ (Nat.pow_add _ _ _) hinj.out.2 hs2.out (eh Uj (at'+j) e2);rw[←Nat.pow_succ,←ct]at h;exact h⟩⟩
      case measure=>simp[intOf];omega
     ·obtain rfl:j=i:=by omega
      have hk:=Lib.hid (Nat.mod_add_div (D Uj (at'+j)+c2) 4294967296).symm;have hl2:(D Uj (at'+j)+c2) % 4294967296<4294967296:=Nat.mod_lt _ (by decide);have hst2:=hoj.store (p:=at'+j) (by omega) hl2;have hlt3:=ii hinj.out.1 (show at'+j<at'+j+1 by omega) hl2;have hbt:=tC Uj U1 _ V c2 ((D Uj (at'+j)+c2) / 4294967296) (4294967296^at') (4294967296^j) (4294967296^(at'+j)) ((D Uj (at'+j)+c2) % 4294967296) _ (Nat.pow_add _ _ _) (by have:=hinj.out.2;rwa [Nat.mod_eq_of_lt HVN.out]at this) hk.out (eh Uj (at'+j) _);rw[show 4294967296^(at'+j)*4294967296=4294967296^(at'+j+1)from(Nat.pow_succ ..).symm]at hbt;have htop2:=HTOP.out;rw[HB1.out,Nat.one_mul]at htop2;have hno:=red_no (cG at') hV0 htop2 HLT2.out HQ1.out HQ2.out;have hfin:=red_fin (cG at') hV0 (by rw[hno]at htop2;exact htop2) rfl hbt hlt3 (by omega);rw[hfin]at hst2;have HNO:=Lib.hid hno;have HST2:=Lib.hid hst2;clear hfin hno htop2 hbt hlt3 hst2;have hq1:1≤q:=by rw[HNO.out];exact Nat.le_add_left _ _
      have hgf:=gG (p:=at'+j) hgj (.int .u32 (((D Uj (at'+j)+c2) % 4294967296:Nat):Int));go_wp2;go_ret;refine⟨?_,by simpa using HST2.out,by simpa using hgf⟩;refine congrArg Ending.returned (congrArg (Value.int IntKind.u32) ?_);have h:=HNO.out;generalize U / 4294967296^at' / V=z at h⊢;omega
def gX (w:World) (base:Nat) (a:Option Addr) (L N:Nat):Prop:=
 0<L→∃g,a=some ⟨g,0,none⟩∧base≤g∧Dig w g 0 L N∧∀j,j<L→w.frozen? ⟨g,j,none⟩=false
theorem gX.rw' {w:World} {base:Nat} {a:Option Addr} {L N:Nat} (h:gX w base a L N) (hN:N<4294967296^L):Rw w a L N:=
 ⟨hN,fun hL=>by obtain⟨g,rfl,_,hd,_⟩:=h hL;exact⟨g,0,rfl,hd⟩⟩
theorem gX.mono {w w':World} {base:Nat} {a:Option Addr} {L N:Nat} (h:gX w base a L N) (hb:Below w.heap.size w w'):gX w' base a L N:=fun hL=>by
 obtain⟨g,rfl,hg,hd,hf⟩:=h hL;exact⟨g,rfl,hg,hd.mono hb (hd.lt hL),fun j hj=>(hb.frozen (p:=⟨g,j,none⟩) (hd.lt hL)).trans (hf j hj)⟩
theorem gX.newN {w:World} {base cap:Nat} {a:Option Addr} {N:Nat} (h:gX w base a (nl N) N) (hc:nl N≤cap):bj base w (.agg #[.slice a (nl N) cap]) N:=
 ⟨a,cap,rfl,hc,fun hL=>by obtain⟨g,rfl,hg,hd,hf⟩:=h hL;exact⟨g,0,rfl,hg,hd,fun j hj=>by rw[Nat.zero_add];exact hf j hj⟩⟩
theorem en {w w':World} {row:Option Nat} (h:w.grownBy w' row) (B:Nat) (hB:B≤w.heap.size) (hr:∀k,row=some k→B≤k):Below B w w':=(Below.refl B w).grown h hB hr
theorem jL {P:Program} (w:World) (base:Nat) (t ty e:TypeId) (i:TypeInfo) (size:Nat) (ht:P.underlying t=some (.slice e)) (hi:P.info? e=some i)
  (v:Value) (n:Nat) (xs:List Value) (hown:w.ownsRow base e size v n xs) (cap:Nat):
  (Builtin.append_ #[t,t] ty #[v,.slice none 0 cap]).run P w= .ok v w:=by
 rcases hown.2 with⟨rfl,rfl⟩ | ⟨g,c,cur,rfl,_,_,hnc,_⟩
 ·simp[Builtin.append_,run_underlying ht,sizeOf,typeInfo,hi,Builtin.lenOf,Builtin.firstCells]
 ·simp[Builtin.append_,run_underlying ht,sizeOf,typeInfo,hi,Builtin.lenOf,Builtin.firstCells,hnc,storeCells]
theorem eV {w:World} {ops:Array Oper} {rest:List Oper} {o:Oper} {a:Act} {Q:Exit→Act→World→Prop}
  (hg:o.guard=none) (s x:Operand) (hop:o.op=Op.call {callee:=Callee.builtin Builtin.append,args:=#[s,x],argTypes:=#[29,29]})
  (base:Nat) (v:Value) (hs:a.eval s=v) (hown:w.ownsRow base 237 1 v 0 []) (hbase:base≤w.heap.size) (ao:Option Addr) (L cap N:Nat) (hx:a.eval x= .slice ao L cap) (hr:Rw w ao L N) (hL:L≤30000000000000)
  (hK:∀a' c' w',gX w' base a' L N→L≤c'→w.grownBy w' v.ownBlock→wpList Tryz.prog ops Q rest (a.put o.dst (.slice a' L c')) w'):
  wpList Tryz.prog ops Q (o::rest) a w:=by
 refine wpList_plain hg fun K hK'=> ?_
 obtain⟨i,hi,hz0,hz1,hz2⟩:=info_parts rL;have fin:∀v' w',w'.ownsRow base 237 1 v' L ((List.range L).map fun j=>Value.int .u32 ((D N j:Nat):Int))→w.grownBy w' v.ownBlock→K (a.put o.dst v') w':=by
  intro v' w' ho hgb;rcases ho.2 with⟨rfl,rfl⟩ | ⟨g,c,cur,rfl,hbg,hgg,hnc,hcm,hcs,htake⟩
  ·exact hK' _ _ (hK none 0 w' (fun h=>by omega) (Nat.le_refl _) hgb)
  ·refine hK' _ _ (hK _ c w' (fun h=>⟨g,rfl,hbg,fun j hj=> ?_,fun j hj=>frozen_of_row w' g j cur _ hgg⟩) hnc hgb);rw[Nat.zero_add,cell_of_row w' g j cur _ (0,0) hgg];have h1:(cur.toList.take (L*1))[j]? =some (.int .u32 ((D N j:Nat):Int)):=by rw[htake];simp[hj]
   rw[List.getElem?_take]at h1;split at h1
   ·simpa using h1
   ·cases h1
 cases ao with
 | none=>
  have hL0:L=0:=by
   rcases Nat.eq_zero_or_pos L with h | h
   ·exact h
   ·obtain⟨b,off,h1,_⟩:=hr.cells h;cases h1
  subst hL0;have hrun:=jL (P:=Tryz.prog) w base 29 o.type 237 i 1 Tryz.underlying29 hi v 0 [] hown cap;unfold Oper.wp;simp[execOp,hop,resolve,invoke,builtin,hs,hx,hrun,Result.andThen];exact fin v w (by simpa using hown) (xO _ _)
 | some ad=>
  have hnews:∀j u,((List.range L).map fun j=>Value.int .u32 ((D N j:Nat):Int))[j]? =some u→w.cell? (ad.add j)=some u:=by
   intro j u hu;have hj:j<L:=by
    have:=(List.getElem?_eq_some_iff.1 hu).1;simpa using this
   obtain⟨b,off,hab,hd⟩:=hr.cells (by omega);cases hab;have hadd:(⟨b,off,none⟩:Addr).add j=⟨b,off+j,none⟩:=by unfold Addr.add;split<;>simp_all
   rw[hadd,hd j hj];simpa [hj]using hu
  obtain⟨v',w',hrun,h1,h2,_⟩:=run_append_own (P:=Tryz.prog) w base 29 o.type 237 i (.int .u32 0) 1 4 Tryz.underlying29 hi hz0 hz1 hz2 rfl (by decide) v 0 [] hown
   ad L cap ((List.range L).map fun j=>Value.int .u32 ((D N j:Nat):Int)) (by simp) hnews (by intro u hu;obtain⟨_,_,rfl⟩:=List.mem_map.1 hu;rfl) (by simp only[maxLen];omega) (by omega) hbase
  unfold Oper.wp;simp[execOp,hop,resolve,invoke,builtin,hs,hx,hrun,Result.andThen];exact fin v' w' (by simpa using h1) h2
def Rd {α:Type} (s:Sem α):Prop:=∀P w x w',s.run P w= .ok x w'→w'=w
theorem Rd.pure {α:Type} (a:α):Rd (Pure.pure a:Sem α):=fun P w x w' h=>by
 simp only[Sem.run_pure]at h;cases h;rfl
theorem Rd.bind {α β:Type} {s:Sem α} {f:α→Sem β} (hs:Rd s) (hf:∀a,Rd (f a)):Rd (s >>=f):=fun P w x w' h=>by
 rw[Sem.run_bind]at h
 cases hr:s.run P w with
 | ok a w1=>
  rw[hr,Result.andThen_ok]at h;have h1:=hs P w a w1 hr;have h2:=hf a P w1 x w' h;rw[h2,h1]
 | halt e w1=>rw[hr]at h;simp[Result.andThen]at h
theorem Rd.load (a:Addr):Rd (Go.load a):=fun P w x w' h=>by
 unfold Go.load at h;simp only[Sem.run]at h;split at h
 ·cases h;rfl
 ·split at h
  ·cases h;rfl
  ·cases h
theorem Rd.program:Rd Go.program:=fun P w x w' h=>by
 simp[Go.program,Sem.run]at h;exact h.2.symm
theorem Rd.stuck {α:Type} (why:String):Rd (Go.stuck why:Sem α):=fun P w x w' h=>by
 simp[Go.stuck,Sem.run]at h
theorem Rd.loadCellsFrom (a:Addr):∀(n i:Nat) (acc:Array Value),Rd (Go.loadCellsFrom a i n acc)
 | 0,i,acc=>Rd.pure _
 | n+1,i,acc=>Rd.bind (Rd.load _) fun v=>Rd.loadCellsFrom a n (i+1) (acc.push v)
theorem Rd.typeInfo (t:TypeId):Rd (Go.typeInfo t):=Rd.bind Rd.program fun p=>by
 cases p.info? t with
 | none=>exact Rd.stuck _
 | some i=>exact Rd.pure _
theorem Rd.underlying (t:TypeId):Rd (Go.underlying t):=Rd.bind Rd.program fun p=>by
 cases p.underlying t with
 | none=>exact Rd.stuck _
 | some i=>exact Rd.pure _
theorem Rd.loadVar (t:TypeId) (a:Addr):Rd (Go.loadVar t a):=by
 refine Rd.bind (Rd.bind (Rd.underlying t) fun d=> ?_) fun b=> ?_
 ·cases d<;>exact Rd.pure _
 ·cases b
  ·exact Rd.load _
  ·exact Rd.bind (Rd.bind (Rd.typeInfo t) fun i=>Rd.pure _) fun n=>Rd.bind (Rd.loadCellsFrom a n 0 #[]) fun cs=>Rd.pure _
theorem Rd.loadAt (t:TypeId) (x:Value):Rd (Instr.loadAt t x):=by
 refine Rd.bind ?_ fun a=>Rd.loadVar t a
 cases x with
 | pointer p=>
  cases p with
  | none=>exact Rd.stuck _
  | some a=>exact Rd.pure _
 | _=>exact Rd.stuck _
def eW (o:Oper):Bool:=match o.op with | .load .. =>true | _=>false
theorem vF {P:Program} {o:Oper} (ho:eW o=true) {ρ:Operand→Value} {w w':World} {n:Next} (h:(execOp ρ o).run P w= .ok n w'):(∃v,n= .value v)∧w'=w:=by
 obtain⟨dst,op,ty,pos,after,guard⟩:=o;unfold eW at ho;cases op<;>first | cases ho | skip
 rename_i t x;have h':((Instr.loadAt t (ρ x)) >>=fun v=>(Pure.pure (Next.value v):Sem Next)).run P w= .ok n w':=h;refine⟨?_,Rd.bind (Rd.loadAt t (ρ x)) (fun v=>Rd.pure _) P w n w' h'⟩;rw[Sem.run_bind]at h'
 cases hr:(Instr.loadAt t (ρ x)).run P w with
 | ok a w1=>rw[hr,Result.andThen_ok,Sem.run_pure]at h';cases h';exact⟨a,rfl⟩
 | halt e w1=>rw[hr]at h';simp[Result.andThen]at h'
section
variable {P:Program} {ops:Array Oper} {Q:Exit→Act→World→Prop} {md:Region.Mode}
def kE (P:Program) (ops:Array Oper) (o:Oper) (v:Value) (a:Act) (w:World):Prop:=
 Region.wanted o (yielded ops a.tmps)=true∧(execOp a.eval o).run P w= .ok (.value v) w
def tH (md:Region.Mode) (ops:Array Oper) (listed:Array Bool) (i t:Nat):Bool:=
 (List.range ops.size).all fun j=>match ops[j]? with
  | none=>true
  | some oj=>
   if t≤j then !listed.getD j true && oj.after.any (fun e=>Region.binds md e && (e.on==i || decide (t≤e.on)))
   else j==i || listed.getD j true || (eW oj && (match ops[i]? with | some oi=>oi.apart ops oj | none=>false))
theorem lV {i t:Nat} {oi:Oper} {v:Value} (hi:ops[i]? =some oi) (hit:i<t) (hload:eW oi=true) (hQ:∀c a w,Q (.panic c) (a.put oi.dst v) w→Q (.panic c) a w)
  (hsink:∀j oj,ops[j]? =some oj→t≤j→∃e∈oj.after,Region.binds md e=true∧(e.on=i∨t≤e.on)):
  ∀(fuel:Nat) (listed:Array Bool) (a:Act) (w:World),listed.size=ops.size→
   (∀j,t≤j→listed.getD j false=false)→
   (∀j oj,ops[j]? =some oj→j<t→j≠i→listed.getD j true=false→eW oj=true∧oi.apart ops oj=true)→
   i∈Region.ready md ops listed→kE P ops oi v a w→
   wpAny P md ops Q fuel (listed.setIfInBounds i true) (a.put oi.dst v) w→wpAny P md ops Q (fuel+1) listed a w:=by
 have hsi:∀cs b,oi.op≠ .select cs b:=fun cs b h=>by unfold eW at hload;rw[h]at hload;cases hload
 have direct:∀ {a:Act} {w:World} {K:Act→World→Prop},kE P ops oi v a w→K (a.put oi.dst v) w→wpOp P ops Q i K a w:=by
  intro a w K hy hK;unfold wpOp;simp only[hi,hy.1,if_true];exact .inl (by simp only[Oper.wp,hy.2,Oper.upon];exact hK)
 have below:∀ {listed:Array Bool},(∀j,t≤j→listed.getD j false=false)→i∈Region.ready md ops listed→∀j,j∈Region.ready md ops listed→j<t:=by
  intro listed htail hr j hj;rcases Nat.lt_or_ge j t with h | h
  ·exact h
  ·obtain⟨_,oj,hoj,hall⟩:=mem_ready.1 hj;obtain⟨e,he,hb,hon⟩:=hsink j oj hoj h;have h1:=hall e he hb;rcases hon with hon | hon
   ·have h0:=(mem_ready.1 hr).1;rw[hon]at h1;rcases Nat.lt_or_ge i listed.size with h' | h'
    ·simp[h']at h0 h1;rw[h0]at h1;cases h1
    ·simp[Array.getElem?_eq_none h']at h1
   ·rw[htail _ hon]at h1;cases h1
 intro fuel
 induction fuel with
 | zero=>
  intro listed a w _ htail _ hr hy H;refine⟨fun h=>(by rw[h]at hr;cases hr),fun j hj=> ?_⟩;by_cases hji:j=i
  ·subst hji;exact direct hy H
  ·have:=ready_mono hj hji;rw[H.1]at this
   cases this
 | succ fuel ih=>
  intro listed a w hsize htail hfree hr hy H;refine⟨fun h=>(by rw[h]at hr;cases hr),fun j hj=> ?_⟩;by_cases hji:j=i
  ·subst hji;exact direct hy H
  ·have hjt:=below htail hr j hj;have h1:=H.2 j (ready_mono hj hji);obtain⟨hjun,oj,hoj,hall⟩:=mem_ready.1 hj;obtain⟨hjl,hap⟩:=hfree j oj hoj hjt hji hjun;have hsj:∀cs b,oj.op≠ .select cs b:=fun cs b h=>by unfold eW at hjl;rw[h]at hjl;cases hjl
   obtain⟨p1,p2,p3⟩:=Oper.apart_spec hap;have hsize':(listed.setIfInBounds j true).size=ops.size:=by simp[hsize]
   have htail':∀k,t≤k→(listed.setIfInBounds j true).getD k false=false:=fun k hk=>by rw[getD_set_ne false (by omega)];exact htail k hk
   have hfree':∀k ok,ops[k]? =some ok→k<t→k≠i→(listed.setIfInBounds j true).getD k true=false→eW ok=true∧oi.apart ops ok=true:=fun k ok hk hkt hki hun=>by
    refine hfree k ok hk hkt hki ?_;by_cases hjk:j=k
    ·subst hjk;exact hjun
    ·rw[getD_set_ne true hjk]at hun;exact hun
   have keep:∀u,kE P ops oi v (a.put oj.dst u) w:=fun u=>by
    refine⟨by rw[wanted_put oi a oj.dst u p3];exact hy.1,by rw[execOp_put oi hsi a oj.dst u p3];exact hy.2⟩
   have next:∀u,wpAny P md ops Q fuel ((listed.setIfInBounds i true).setIfInBounds j true) ((a.put oi.dst v).put oj.dst u) w→wpAny P md ops Q (fuel+1) (listed.setIfInBounds j true) (a.put oj.dst u) w:=fun u hK=>by
    refine ih _ _ _ hsize' htail' hfree' (ready_mono hr (Ne.symm hji)) (keep u) ?_;rw[Array.setIfInBounds_comm _ _ hji,←Act.put_comm a v u p2];exact hK
   unfold wpOp at h1⊢;simp only[hoj]at h1⊢;rw[wanted_put oj a oi.dst v p1]at h1;split
   ·rename_i hw;simp only[hw,if_true]at h1;rcases h1 with h1 | ⟨hasks,hlets⟩;case inr=>exact .inr ⟨by unfold Oper.asks at *;rw[execOp_put oj hsj a oi.dst v p1]at hasks;exact hasks,hlets⟩
    refine .inl ?_;unfold Oper.wp at *;rw[execOp_put oj hsj a oi.dst v p1]at h1
    cases hrun:(execOp a.eval oj).run P w with
    | ok n w'=>
     rw[hrun]at h1;obtain⟨⟨u,rfl⟩,rfl⟩:=vF hjl hrun;simp only[Oper.upon]at h1⊢;exact next u h1
    | halt x w'=>
     rw[hrun]at h1;cases x<;>simp only[Oper.upon]at h1⊢
     case panic u=>exact hQ _ _ _ h1
   ·rename_i hw;simp only[hw]at h1;exact next _ h1
theorem cH {i t:Nat} {oi:Oper} {v:Value} {fuel:Nat} {listed:Array Bool} {a:Act} {w:World} (hi:ops[i]? =some oi) (hit:i<t) (hload:eW oi=true)
  (hsz:listed.size=ops.size) (hf:tH md ops listed i t=true) (hr:(Region.ready md ops listed).contains i=true)
  (hQ:∀c a w,Q (.panic c) (a.put oi.dst v) w→Q (.panic c) a w) (hy:kE P ops oi v a w)
  (h:wpAny P md ops Q fuel (listed.setIfInBounds i true) (a.put oi.dst v) w):wpAny P md ops Q (fuel+1) listed a w:=by
 have hall:∀j oj,ops[j]? =some oj→(if t≤j then !listed.getD j true && oj.after.any (fun e=>Region.binds md e && (e.on==i || decide (t≤e.on)))
   else j==i || listed.getD j true || (eW oj && oi.apart ops oj))=true:=fun j oj hoj=>by
  have h1:=List.all_eq_true.1 hf j (List.mem_range.2 (Array.getElem?_eq_some_iff.1 hoj).1);simp only[hoj,hi]at h1;exact h1
 refine lV hi hit hload hQ (fun j oj hoj htj=> ?_) fuel listed a w hsz (fun j htj=> ?_) (fun j oj hoj hjt hji hun=> ?_) (by simpa using hr) hy h
 ·have h1:=hall j oj hoj;rw[if_pos htj,Bool.and_eq_true]at h1;obtain⟨e,he,hb⟩:=Array.any_eq_true'.1 h1.2;simp only[Bool.and_eq_true,Bool.or_eq_true,beq_iff_eq,decide_eq_true_eq]at hb;exact⟨e,he,hb.1,hb.2⟩
 ·rcases Nat.lt_or_ge j ops.size with hlt | hge
  ·have h1:=hall j ops[j] (Array.getElem?_eq_getElem hlt);rw[if_pos htj,Bool.and_eq_true]at h1;have h2:=h1.1;have hl:j<listed.size:=by omega
   simp[hl]at h2⊢;exact h2
  ·simp[Array.getElem?_eq_none (show listed.size≤j by omega)]
 ·have h1:=hall j oj hoj;rw[if_neg (by omega)]at h1;simp only[Bool.or_eq_true,beq_iff_eq,hji,false_or,hun,Bool.false_eq_true,Bool.and_eq_true]at h1;exact h1
end
section
variable {P:Program} {ops:Array Oper} {Q:Exit→Act→World→Prop} {md:Region.Mode}
theorem mS {i:Nat} {d:Option Tmp} {oi:Oper} {v:Value} {fuel:Nat} {listed:Array Bool} {a:Act} {w:World} (hi:ops[i]? =some oi) (hd:oi.dst=d)
  (hs:Region.noSelect ops=true) (hf:Region.free md ops listed i=true) (hr:(Region.ready md ops listed).contains i=true)
  (hQ:∀c a w,Q (.panic c) (a.put d v) w→Q (.panic c) a w) (hy:Yields P ops oi v a)
  (h:wpAny P md ops Q fuel (listed.setIfInBounds i true) (a.put d v) w):wpAny P md ops Q (fuel+1) listed a w:=by
 subst hd;exact wpAny_take hi hs hf hr hQ hy h
theorem lW {i t:Nat} {d:Option Tmp} {oi:Oper} {v:Value} {fuel:Nat} {listed:Array Bool} {a:Act} {w:World} (hi:ops[i]? =some oi) (hd:oi.dst=d) (hit:i<t) (hload:eW oi=true)
  (hsz:listed.size=ops.size) (hf:tH md ops listed i t=true) (hr:(Region.ready md ops listed).contains i=true)
  (hQ:∀c a w,Q (.panic c) (a.put d v) w→Q (.panic c) a w) (hy:kE P ops oi v a w)
  (h:wpAny P md ops Q fuel (listed.setIfInBounds i true) (a.put d v) w):wpAny P md ops Q (fuel+1) listed a w:=by
 subst hd;exact cH hi hit hload hsz hf hr hQ hy h
def cD (ops:Array Oper) (i:Nat):Option Tmp:=match ops[i]? with | some o=>o.dst | none=>none
def dx (ops:Array Oper) (S:List Nat) (f:Nat→Value) (a:Act):Act:=S.foldl (fun a i=>a.put (cD ops i) (f i)) a
def lX (f:Nat→Value) (j:Nat) (v:Value):Nat→Value:=fun i=>if i=j then v else f i
def cf (md:Region.Mode) (ops:Array Oper) (j:Nat):List Nat:=match ops[j]? with | some o=>(o.after.toList.filter (Region.binds md)).map (·.on) | none=>[]
def needs (md:Region.Mode) (ops:Array Oper):Nat→Nat→List Nat
 | 0,j=>cf md ops j
 | n+1,j=>cf md ops j++(cf md ops j).flatMap (needs md ops n)
def blk:Value→Nat | .pointer (some a)=>a.block | _=>0
theorem cS (i:Nat) (S:List Nat) (f:Nat→Value) (a:Act):dx ops (i::S) f a=dx ops S f (a.put (cD ops i) (f i)):=rfl
theorem rS {S:List Nat} {f g:Nat→Value} (h:∀i∈S,f i=g i) (a:Act):dx ops S f a=dx ops S g a:=by
 induction S generalizing a with
 | nil=>rfl
 | cons i S ih=>rw[cS,cS,h i (by simp),ih (fun k hk=>h k (by simp[hk]))]
theorem put_put (a:Act) (d:Option Tmp) (u v:Value):(a.put d u).put d v=a.put d v:=by
 cases d<;>simp[Act.put]
theorem vG {S:List Nat} {d:Option Tmp} (hd:∀i∈S,cD ops i≠d) (hS:∀i∈S,cD ops i≠none) (f:Nat→Value) (v:Value) (a:Act):
  (dx ops S f a).put d v=dx ops S f (a.put d v):=by
 induction S generalizing a with
 | nil=>rfl
 | cons i S ih=>
  rw[cS,cS,ih (fun k hk=>hd k (by simp[hk])) (fun k hk=>hS k (by simp[hk]))]
  congr 1
  have h1:=hd i (by simp)
  cases hdi:cD ops i with
  | none=>exact absurd hdi (hS i (by simp))
  | some t=>
   cases d with
   | none=>rfl
   | some d=>
    have:t≠d:=fun h=>h1 (by rw[hdi,h])
    simp only[Act.put];rw[Array.setIfInBounds_comm _ _ this]
theorem vH {S:List Nat} (hn:(S.map (cD ops)).Nodup) (hS:∀i∈S,cD ops i≠none) (f:Nat→Value) (v:Value) (a:Act) {j:Nat} (hj:j∈S):
  (dx ops S f a).put (cD ops j) v=dx ops S (lX f j v) a:=by
 induction S generalizing a with
 | nil=>cases hj
 | cons i S ih=>
  rw[List.map_cons,List.nodup_cons]at hn;rw[cS,cS];by_cases hji:j=i
  ·subst hji;have hnot:∀k∈S,cD ops k≠cD ops j:=fun k hk h=>hn.1 (by rw[←h];exact List.mem_map_of_mem hk)
   rw[vG hnot (fun k hk=>hS k (by simp[hk])),put_put];have e1:lX f j v j=v:=by simp[lX]
   rw[e1];refine rS (fun k hk=> ?_) _;have:k≠j:=fun h=>hnot k hk (by rw[h])
   simp[lX,this]
  ·have hj':j∈S:=by
    rcases List.mem_cons.1 hj with h | h
    ·exact absurd h hji
    ·exact h
   rw[ih hn.2 (fun k hk=>hS k (by simp[hk])) _ hj'];have e1:lX f j v i=f i:=by unfold lX;rw[if_neg (fun h=>hji h.symm)]
   rw[e1]
theorem tI {S:List Nat} (a:Act):dx ops S (fun i=>a.tmps.getD ((cD ops i).getD 0) undef) a=a:=by
 induction S with
 | nil=>rfl
 | cons i S ih=>
  rw[cS];have:a.put (cD ops i) (a.tmps.getD ((cD ops i).getD 0) undef)=a:=by
   cases cD ops i with
   | none=>rfl
   | some t=>
    simp only[Act.put,Option.getD_some];have:a.tmps.setIfInBounds t (a.tmps.getD t undef)=a.tmps:=by
     apply Array.ext
     ·simp
     ·intro k h1 h2;rw[Array.getElem_setIfInBounds];split
      ·rename_i h;subst h;simp[h2]
      ·rfl
    rw[this]
  rw[this];exact ih
theorem rT {T S:List Nat} (hT:T.Nodup) (h:∀i∈T,i∈S):T.length≤S.length:=by
 induction T generalizing S with
 | nil=>simp
 | cons x T ih=>
  rw[List.nodup_cons]at hT;have hx:=h x (by simp);have h1:=ih (S:=S.erase x) hT.2 (fun i hi=>(List.mem_erase_of_ne (fun e=>hT.1 (by rw[←e];exact hi))).2 (h i (by simp[hi])));rw[List.length_erase_of_mem hx]at h1;have:=List.length_pos_of_mem hx;simp only[List.length_cons];omega
def ba (S:List Nat) (l:Array Bool):Array Bool:=S.foldl (fun l i=>l.setIfInBounds i true) l
theorem kF (S:List Nat) (l:Array Bool):(ba S l).size=l.size:=by
 induction S generalizing l with
 | nil=>rfl
 | cons i S ih=>show(ba S (l.setIfInBounds i true)).size=_;rw[ih];simp
theorem bb (S:List Nat) (l:Array Bool) (k:Nat) (d:Bool):(ba S l).getD k d=if k∈S∧k<l.size then true else l.getD k d:=by
 induction S generalizing l with
 | nil=>simp[ba]
 | cons i S ih=>
  show(ba S (l.setIfInBounds i true)).getD k d=_;rw[ih];by_cases hik:i=k
  ·subst hik;by_cases hlt:i<l.size
   ·simp[hlt]
   ·simp[hlt]
  ·have:k≠i:=fun h=>hik h.symm
   rw[getD_set_ne d hik];simp[this]
theorem kG {listed:Array Bool} (hcl:∀j,listed.getD j false=true→∀k∈cf md ops j,listed.getD k false=true):
  ∀n j,(∀k∈cf md ops j,listed.getD k false=true)→∀k∈needs md ops n j,listed.getD k false=true
 | 0,j,h,k,hk=>h k hk
 | n+1,j,h,k,hk=>by
  rcases List.mem_append.1 hk with hk | hk
  ·exact h k hk
  ·obtain⟨i,hi,hk⟩:=List.mem_flatMap.1 hk;exact kG hcl n i (hcl i (h i hi)) k hk
theorem ij {listed:Array Bool} {j:Nat} (h:j∈Region.ready md ops listed):j<ops.size∧listed.getD j true=false∧∀k∈cf md ops j,listed.getD k false=true:=by
 obtain⟨h0,o,ho,hall⟩:=mem_ready.1 h;refine⟨(Array.getElem?_eq_some_iff.1 ho).1,h0,fun k hk=> ?_⟩;unfold cf at hk;rw[ho]at hk;simp only[List.mem_map,List.mem_filter]at hk;obtain⟨e,⟨he,hb⟩,rfl⟩:=hk;exact hall e (by simpa using he) hb
theorem kH {listed:Array Bool} {j:Nat} (hj:j<ops.size) (h0:listed.getD j true=false) (h:∀k∈cf md ops j,listed.getD k false=true):j∈Region.ready md ops listed:=by
 refine mem_ready.2 ⟨h0,ops[j],Array.getElem?_eq_getElem hj,fun e he hb=>h e.on ?_⟩;unfold cf;rw[Array.getElem?_eq_getElem hj];simp only[List.mem_map,List.mem_filter];exact⟨e,⟨by simpa using he,hb⟩,rfl⟩
def rU (md:Region.Mode) (ops:Array Oper) (n:Nat) (S:List Nat) (l:Array Bool):Bool:=
 l.size==ops.size && S.all (fun i=>decide (i<ops.size) && !l.getD i true && (cD ops i).isSome) &&
 (List.range ops.size).all (fun j=> !l.getD j false || (cf md ops j).all (fun k=>l.getD k false)) &&
 (List.range ops.size).all (fun j=>S.contains j || l.getD j false || S.all (fun i=>(needs md ops n j).contains i)) &&
 S.all (fun j=>(cf md ops j).all (fun k=>decide (k<j) && (S.contains k || l.getD k false)))
theorem tJ (S:List Nat) (n:Nat) (Al:Nat→Bool) (F:Nat→Value→World→Prop) {l:Array Bool} {a:Act} {w:World} {fuel:Nat}
  (hok:rU md ops n S l=true) (hnd:(S.map (cD ops)).Nodup)
  (hst:∀i∈S,∀v w w',F i v w→Below w.heap.size w w'→F i v w')
  (hlt:∀i∈S,Al i=true→∀v w,F i v w→blk v<w.heap.size)
  (hstep:∀j∈S,∀(f:Nat→Value) (w':World),Below w.heap.size w w'→(∀i∈S,i∈cf md ops j→F i (f i) w')→∀K:Act→World→Prop,
   (∀v w'',F j v w''→Below w'.heap.size w' w''→(Al j=true→w'.heap.size≤blk v)→K (dx ops S (lX f j v) a) w'')→wpOp P ops Q j K (dx ops S f a) w')
  (hrest:∀f w',Below w.heap.size w w'→(∀i∈S,F i (f i) w')→(∀i∈S,∀j∈S,Al i=true→Al j=true→i≠j→blk (f i)≠blk (f j))→wpAny P md ops Q fuel (ba S l) (dx ops S f a) w'):
  wpAny P md ops Q (fuel+S.length) l a w:=by
 unfold rU at hok;simp only[Bool.and_eq_true,List.all_eq_true,Bool.or_eq_true,Bool.not_eq_true',decide_eq_true_eq,List.mem_range,beq_iff_eq,List.contains_iff_mem]at hok;obtain⟨⟨⟨⟨hsz,hS⟩,hcl⟩,hoth⟩,hdown⟩:=hok;have hnd':S.Nodup:=by
  rw[List.nodup_iff_pairwise_ne]at hnd⊢;rw[List.pairwise_map]at hnd;exact hnd.imp (fun h e=>h (by rw[e]))
 have main:∀(r:Nat) (T:List Nat) (f:Nat→Value) (w':World),T.Nodup→(∀i∈T,i∈S)→T.length+r=S.length→
   (∀j,(ba T l).getD j false=true→∀k∈cf md ops j,(ba T l).getD k false=true)→
   Below w.heap.size w w'→(∀i∈T,F i (f i) w')→(∀i∈T,∀j∈T,Al i=true→Al j=true→i≠j→blk (f i)≠blk (f j))→
   wpAny P md ops Q (fuel+r) (ba T l) (dx ops S f a) w':=by
  intro r
  induction r with
  | zero=>
   intro T f w' hTn hT hlen hclT hb hF hsep;have hsub:∀i∈S,i∈T:=by
    intro i hi;apply Classical.byContradiction;intro hni;have h1:(i::T).length≤S.length:=rT (List.nodup_cons.2 ⟨hni,hTn⟩) (fun k hk=>by rcases List.mem_cons.1 hk with rfl | hk;exact hi;exact hT k hk);simp at h1;omega
   have e:ba T l=ba S l:=by
    apply Array.ext
    ·rw[kF,kF]
    ·intro k h1 h2;have g1:=bb T l k false;have g2:=bb S l k false;have hiff:k∈T↔k∈S:=⟨hT k,hsub k⟩;simp only[hiff]at g1;rw[←g2]at g1;simpa [h1,h2]using g1
   rw[e];exact hrest f w' hb (fun i hi=>hF i (hsub i hi)) (fun i hi j hj=>hsep i (hsub i hi) j (hsub j hj))
  | succ r ih=>
   intro T f w' hTn hT hlen hclT hb hF hsep;have hex:∃i∈S,i∉T:=by
    apply Classical.byContradiction;intro hno;have hall:∀i∈S,i∈T:=fun i hi=>Classical.byContradiction fun h=>hno ⟨i,hi,h⟩
    have:=rT hnd' hall;omega
   have hready:∀j∈Region.ready md ops (ba T l),j∈S∧j∉T∧∀k∈cf md ops j,(ba T l).getD k false=true:=by
    intro j hj;obtain⟨hjs,hj0,hjp⟩:=ij hj;have hjT:j∉T:=by
     intro h;rw[bb]at hj0;simp[h,hsz,hjs]at hj0
    refine⟨?_,hjT,hjp⟩;rcases hoth j hjs with(h | h) | h
    ·exact h
    ·rw[bb]at hj0;have:j<l.size:=by omega
     simp[hjT,this]at hj0 h;rw[hj0]at h;cases h
    ·obtain⟨i,hi,hiT⟩:=hex;have h1:=kG hclT n j hjp i (h i hi);rw[bb]at h1;have h2:=(hS i hi).1.2;have:i<l.size:=by have:=(hS i hi).1.1;omega
     simp[hiT,this]at h1 h2;rw[h1]at h2;cases h2
   have un:∀i∈S,i∉T→(ba T l).getD i true=false:=fun i hi hiT=>by
    rw[bb];have:=(hS i hi).1.2;simp[hiT];simpa using this
   have hsome:∃i∈Region.ready md ops (ba T l),True:=by
    have key:∀(m i:Nat),i≤m→i∈S→i∉T→∃i∈Region.ready md ops (ba T l),True:=by
     intro m
     induction m with
     | zero=>
      intro i him hi hiT;refine⟨i,kH (hS i hi).1.1 (un i hi hiT) (fun k hk=> ?_),trivial⟩;have:=(hdown i hi k hk).1;omega
     | succ m ihm=>
      intro i him hi hiT;by_cases hall:∀k∈cf md ops i,(ba T l).getD k false=true
      ·exact⟨i,kH (hS i hi).1.1 (un i hi hiT) hall,trivial⟩
      ·simp only[Classical.not_forall]at hall;obtain⟨k,hk,hno⟩:=hall;obtain⟨hlt',hor⟩:=hdown i hi k hk;have hkT:k∉T:=fun h=>hno (by rw[bb];simp[h,hsz];have:=(hS k (hT k h)).1.1;omega)
       rcases hor with h | h
       ·exact ihm k (by omega) h hkT
       ·exact absurd (by rw[bb];simp[hkT];simpa using h) hno
    obtain⟨i,hi,hiT⟩:=hex;exact key i i (Nat.le_refl _) hi hiT
   refine⟨fun h=> ?_,fun j hj=> ?_⟩
   ·obtain⟨i,hi,_⟩:=hsome;rw[h]at hi;cases hi
   ·obtain⟨hjS,hjT,hjp⟩:=hready j hj;refine hstep j hjS f w' hb (fun i hi hp=> ?_) _ (fun v w'' hFv hbv hnew=> ?_)
    ·refine hF i (Classical.byContradiction fun hiT=> ?_);have h1:=hjp i hp;rw[bb]at h1;have h2:=(hS i hi).1.2;have:i<l.size:=by have:=(hS i hi).1.1;omega
     simp[hiT,this]at h1 h2;rw[h1]at h2;cases h2
    ·have e:(ba T l).setIfInBounds j true=ba (T++ [j]) l:=by unfold ba;rw[List.foldl_append];rfl
     rw[e];refine ih (T++ [j]) (lX f j v) w'' ?_ ?_ ?_ ?_ (hb.trans (hbv.mono hb.size)) ?_ ?_
     ·exact List.nodup_append.2 ⟨hTn,by simp,by intro x hx y hy;simp at hy;subst hy;exact fun h=>hjT (h▸hx)⟩
     ·intro i hi;rcases List.mem_append.1 hi with h | h
      ·exact hT i h
      ·simp at h;rw[h];exact hjS
     ·simp;omega
     ·intro i hi k hk;rw[←e]at hi⊢;by_cases hij:j=i
      ·subst hij;exact getD_set_true (hjp k hk)
      ·rw[getD_set_ne false hij]at hi;exact getD_set_true (hclT i hi k hk)
     ·intro i hi;by_cases hij:i=j
      ·subst hij;simpa [lX]using hFv
      ·have hiT:i∈T:=by
        rcases List.mem_append.1 hi with h | h
        ·exact h
        ·simp at h;exact absurd h hij
       simp only[lX,hij,if_false];exact hst i (hT i hiT) _ _ _ (hF i hiT) hbv
     ·intro i hi k hk hai hak hik;have low:∀x∈T,Al x=true→blk (f x)<w'.heap.size:=fun x hx hax=>hlt x (hT x hx) hax _ _ (hF x hx)
      have inT:∀x∈T++ [j],x≠j→x∈T:=fun x hx hxj=>by
       rcases List.mem_append.1 hx with h | h
       ·exact h
       ·simp at h;exact absurd h hxj
      by_cases hij:i=j
      ·have hkj:k≠j:=fun h=>hik (by rw[hij,h])
       have h1:=low k (inT k hk hkj) hak;subst hij;simp only[lX,if_true,hkj,if_false];have:=hnew hai;omega
      ·have h1:=low i (inT i hi hij) hai;by_cases hkj:k=j
       ·subst hkj;simp only[lX,if_true,hij,if_false];have:=hnew hak;omega
       ·simp only[lX,hij,hkj,if_false];exact hsep i (inT i hi hij) k (inT k hk hkj) hai hak hik
 have h0:=main S.length [] (fun i=>a.tmps.getD ((cD ops i).getD 0) undef) w (by simp) (by simp) (by simp) (fun j hj k hk=>by
   have hjs:j<ops.size:=by
    rcases Nat.lt_or_ge j ops.size with h | h
    ·exact h
    ·have hj':l.getD j false=true:=hj;simp[Array.getElem?_eq_none (show l.size≤j by omega)]at hj'
   rcases hcl j hjs with h | h
   ·have hj':l.getD j false=true:=hj;rw[h]at hj';cases hj'
   ·exact h k hk) (Below.refl _ _) (by simp) (by simp)
 rw[tI]at h0;exact h0
def jw (D:List (Nat×Tmp)) (f:Nat→Value) (a:Act):Act:=D.foldl (fun a p=>a.put (some p.2) (f p.1)) a
theorem rV {D:List (Nat×Tmp)} (h:D.all (fun p=>cD ops p.1==some p.2)=true) (f:Nat→Value) (a:Act):jw D f a=dx ops (D.map (·.1)) f a:=by
 induction D generalizing a with
 | nil=>rfl
 | cons p D ih=>
  simp only[List.all_cons,Bool.and_eq_true,beq_iff_eq]at h;show jw D f (a.put (some p.2) (f p.1))=dx ops (D.map (·.1)) f (a.put (cD ops p.1) (f p.1));rw[h.1,ih h.2]
theorem rW (D:List (Nat×Tmp)) (n:Nat) (Al:Nat→Bool) (F:Nat→Value→World→Prop) {l:Array Bool} {a:Act} {w:World} {fuel:Nat}
  (hok:rU md ops n (D.map (·.1)) l=true) (hds:D.all (fun p=>cD ops p.1==some p.2)=true) (hnd:(D.map (·.2)).Nodup)
  (hst:∀i∈D.map (·.1),∀v w w',F i v w→Below w.heap.size w w'→F i v w')
  (hlt:∀i∈D.map (·.1),Al i=true→∀v w,F i v w→blk v<w.heap.size)
  (hstep:∀p∈D,∀(f:Nat→Value) (w':World),Below w.heap.size w w'→(∀i∈D.map (·.1),i∈cf md ops p.1→F i (f i) w')→∀K:Act→World→Prop,
   (∀v w'',F p.1 v w''→Below w'.heap.size w' w''→(Al p.1=true→w'.heap.size≤blk v)→K ((jw D f a).put (some p.2) v) w'')→wpOp P ops Q p.1 K (jw D f a) w')
  (hrest:∀f w',Below w.heap.size w w'→(∀i∈D.map (·.1),F i (f i) w')→(∀i∈D.map (·.1),∀j∈D.map (·.1),Al i=true→Al j=true→i≠j→blk (f i)≠blk (f j))→
   wpAny P md ops Q fuel (ba (D.map (·.1)) l) (jw D f a) w'):
  wpAny P md ops Q (fuel+D.length) l a w:=by
 have hS:∀i∈D.map (·.1),cD ops i≠none:=by
  intro i hi;obtain⟨p,hp,rfl⟩:=List.mem_map.1 hi;have:=List.all_eq_true.1 hds p hp;rw[beq_iff_eq]at this;rw[this];simp
 have hnd':((D.map (·.1)).map (cD ops)).Nodup:=by
  rw[List.map_map];have:D.map (cD ops ∘ fun p=>p.1)=(D.map (·.2)).map some:=by
   rw[List.map_map];apply List.map_congr_left;intro p hp;have:=List.all_eq_true.1 hds p hp;rw[beq_iff_eq]at this;simp[this]
  rw[this,List.nodup_iff_pairwise_ne,List.pairwise_map];rw[List.nodup_iff_pairwise_ne]at hnd;exact hnd.imp (fun h e=>h (by simpa using e))
 have h:=tJ (fuel:=fuel) (D.map (·.1)) n Al F hok hnd' hst hlt (fun j hj f w' hb hF K hK=>by
   rw[←rV hds];obtain⟨p,hp,rfl⟩:=List.mem_map.1 hj;have hd:=List.all_eq_true.1 hds p hp;rw[beq_iff_eq]at hd;refine hstep p hp f w' hb hF K (fun v w'' h1 h2 h3=> ?_);have:=hK v w'' h1 h2 h3;rw[←vH hnd' hS _ _ _ hj,←rV hds,hd]at this;exact this) (fun f w' hb hF hs=>by rw[←rV hds];exact hrest f w' hb hF hs)
 rwa [List.length_map]at h
end
def bd (w:World) (g:Nat) (a:Option Addr) (L c:Nat):Prop:=w.heap[g]? =some (.cells #[.slice a L c] 31 (0,0))
theorem bd.cell {w:World} {g L c:Nat} {a:Option Addr} (h:bd w g a L c):w.cell? ⟨g,0,none⟩=some (.slice a L c):=by
 rw[cell_of_row w g 0 _ _ (0,0) h];rfl
theorem bd.frozen {w:World} {g L c:Nat} {a:Option Addr} (h:bd w g a L c):w.frozen? ⟨g,0,none⟩=false:=frozen_of_row w g 0 _ _ h
theorem bd.lt {w:World} {g L c:Nat} {a:Option Addr} (h:bd w g a L c):g<w.heap.size:=(Array.getElem?_eq_some_iff.1 h).1
theorem bd.mono {w w':World} {g L c B:Nat} {a:Option Addr} (h:bd w g a L c) (hb:Below B w w') (hB:g<B):bd w' g a L c:=(hb.block g hB).trans h
theorem bd.set {w:World} {g L c L' c':Nat} {a a':Option Addr} (h:bd w g a L c):bd (w.setCell ⟨g,0,none⟩ (.slice a' L' c')) g a' L' c':=by
 have:=heap_setCell_same w g 0 _ _ (.slice a' L' c') h;exact this
theorem bd.setOther {w:World} {g L c:Nat} {a:Option Addr} (h:bd w g a L c) (p:Addr) (u:Value) (hp:p.block≠g):bd (w.setCell p u) g a L c:=
 (Below.heap_setCell w p u g (fun e=>hp e.symm)).trans h
theorem bd.made (w:World) (a:Option Addr) (L c:Nat):bd (w.alloc (.cells #[.slice a L c] 31)) w.heap.size a L c:=heap_alloc_new w _
theorem bd.ne {w:World} {g L c b o:Nat} {a:Option Addr} {x:Int} {k:IntKind} (h:bd w g a L c) (hd:w.cell? ⟨b,o,none⟩=some (.int k x)):b≠g:=by
 rintro rfl;rw[cell_of_row w b o _ _ (0,0) h]at hd
 cases o with
 | zero=>cases hd
 | succ o=>simp at hd
theorem bj.setVar {w:World} {base g L c N:Nat} {a:Option Addr} {v u:Value} (h:bj base w v N) (hg:bd w g a L c):bj base (w.setCell ⟨g,0,none⟩ u) v N:=by
 obtain⟨x,cap,rfl,hc,hx⟩:=h;refine⟨x,cap,rfl,hc,fun hL=> ?_⟩;obtain⟨b,off,rfl,hb,hd,hf⟩:=hx hL;have hne:b≠g:=hg.ne (by simpa using hd 0 hL);refine⟨b,off,rfl,hb,fun j hj=> ?_,fun j hj=> ?_⟩
 ·rw[World.cell?_of_block (Below.heap_setCell w _ u b (by simpa using hne))];exact hd j hj
 ·rw[World.frozen?_of_block (Below.heap_setCell w _ u b (by simpa using hne))];exact hf j hj
theorem IsN.setVar {w:World} {g L c N:Nat} {a:Option Addr} {v u:Value} (h:IsN w v N) (hg:bd w g a L c):IsN (w.setCell ⟨g,0,none⟩ u) v N:=by
 obtain⟨x,cap,rfl,hc,hx⟩:=h;refine⟨x,cap,rfl,hc,hx.lt,fun hL=> ?_⟩;obtain⟨b,off,rfl,hd⟩:=hx.cells hL;have hne:b≠g:=hg.ne (by simpa using hd 0 hL);refine⟨b,off,rfl,fun j hj=> ?_⟩;rw[World.cell?_of_block (Below.heap_setCell w _ u b (by simpa using hne))];exact hd j hj
theorem D_ext {M N:Nat} (hl:nl M=nl N) (h:∀j,j<nl N→D M j=D N j):M=N:=by
 have e:M % 4294967296^nl N=N % 4294967296^nl N:=xH _ (fun j hj=>h j hj);rw[Nat.mod_eq_of_lt (by rw[←hl];exact dO M),Nat.mod_eq_of_lt (dO N)]at e;exact e
theorem IsN.unique {w:World} {v:Value} {M N:Nat} (h:IsN w v M) (h':IsN w v N):M=N:=by
 obtain⟨x,cap,rfl,_,hx⟩:=h;obtain⟨y,cap',e,_,hy⟩:=h';simp only[Value.agg.injEq,Array.mk.injEq,List.cons.injEq,Value.slice.injEq,and_true]at e;obtain⟨rfl,hl,rfl⟩:=e;refine D_ext hl (fun j hj=> ?_);obtain⟨b,o,rfl,hd⟩:=hx.cells (by omega);obtain⟨b',o',e',hd'⟩:=hy.cells (by omega);cases e';have h1:=hd j (by omega);rw[hd' j hj]at h1;simp only[Option.some.injEq,Value.int.injEq,true_and]at h1;omega
def kI (base:Nat) (w:World) (g N:Nat):Prop:=∃a c,bd w g a (nl N) c∧bj base w (.agg #[.slice a (nl N) c]) N
noncomputable def valAt (w:World) (g:Nat):Nat:=Classical.epsilon (fun N=>∃base,kI base w g N)
theorem kI.valAt {base:Nat} {w:World} {g N:Nat} (h:kI base w g N):valAt w g=N:=by
 have h1:∃N,∃base,kI base w g N:=⟨N,base,h⟩;obtain⟨base',a',c',hb',hn'⟩:=Classical.epsilon_spec h1;obtain⟨a,c,hb,hn⟩:=h;have e:=hb'.symm.trans hb;simp only[Option.some.injEq,Obj.cells.injEq,Array.mk.injEq,List.cons.injEq,Value.slice.injEq,and_true]at e;have i1:=hn'.isN;rw[e.1,e.2.1,e.2.2]at i1;exact i1.unique hn.isN
theorem kI.mono {base:Nat} {w w':World} {g N B:Nat} (h:kI base w g N) (hb:Below w.heap.size w w'):kI base w' g N:=by
 obtain⟨a,c,h1,h2⟩:=h;exact⟨a,c,h1.mono hb h1.lt,h2.mono hb⟩
theorem lY {ops:Array Oper} {o:Oper} {a:Act} {w:World} {K:Act→World→Prop} {Q:Exit→Act→World→Prop} {E:Prop}
  (hg:o.guard=none) (s x:Operand) (hop:o.op=Op.call {callee:=Callee.builtin Builtin.append,args:=#[s,x],argTypes:=#[29,29]})
  (base:Nat) (hbase:base≤w.heap.size) (so:Option Addr) (hs:a.eval s= .slice so 0 0) (ao:Option Addr) (L cap N:Nat) (hx:a.eval x= .slice ao L cap) (hr:Rw w ao L N) (hL:L≤30000000000000)
  (hK:∀a' c' w',gX w' base a' L N→L≤c'→Below w.heap.size w w'→K (a.put o.dst (.slice a' L c')) w'):
  if Region.wanted o (yielded ops a.tmps)=true then Oper.wp Tryz.prog o a w K Q else E:=by
 have hw:Region.wanted o (yielded ops a.tmps)=true:=by simp[Region.wanted,hg]
 obtain⟨i,hi,hz0,hz1,hz2⟩:=info_parts rL;rcases Nat.eq_zero_or_pos L with h0 | hpos
 ·subst h0;rw[if_pos hw];have hrun:(Builtin.append_ #[29,29] o.type #[.slice so 0 0,.slice ao 0 cap]).run Tryz.prog w= .ok (.slice so 0 0) w:=by
   cases so<;>cases ao<;>simp[Builtin.append_,run_underlying Tryz.underlying29,sizeOf,typeInfo,hi,Builtin.lenOf,Builtin.firstCells,storeCells,loadCells,loadCellsFrom,Result.andThen]
  unfold Oper.wp;simp[execOp,hop,resolve,invoke,builtin,hs,hx,hrun,Result.andThen];exact hK so 0 w (fun h=>by omega) (Nat.le_refl _) (Below.refl _ _)
 ·obtain⟨b,off,rfl,hd⟩:=hr.cells hpos;refine step_append_grows hg s x 29 hop 237 i (.int .u32 0) 1 4 Tryz.underlying29 hi hz0 hz1 hz2 rfl (by decide) so 0 0 [] hs (fun _=>⟨rfl,rfl⟩) rfl (fun b hb j u hu=>by cases hu)
   ⟨b,off,none⟩ L cap ((List.range L).map fun j=>Value.int .u32 ((D N j:Nat):Int)) hx (by simp) (fun j u hu=> ?_) (by intro u hu;obtain⟨_,_,rfl⟩:=List.mem_map.1 hu;rfl) (by omega) (by simp only[maxLen];omega) (by omega) ?_
  ·have hj:j<L:=by
    have:=(List.getElem?_eq_some_iff.1 hu).1;simpa using this
   have hadd:(⟨b,off,none⟩:Addr).add j=⟨b,off+j,none⟩:=by unfold Addr.add;split<;>simp_all
   rw[hadd,hd j hj];simpa [hj]using hu
  ·intro v' w' ho hgb;rcases ho.2 with⟨rfl,h⟩ | ⟨g,c,cur,rfl,hbg,hgg,hnc,hcm,hcs,htake⟩
   ·omega
   ·have hb':Below w.heap.size w w':=en hgb _ (Nat.le_refl _) (fun k hk=>by cases hk);have:=hK (some ⟨g,0,none⟩) c w' (fun h=>⟨g,rfl,by omega,fun j hj=> ?_,fun j hj=>frozen_of_row w' g j cur _ hgg⟩) (by simpa using hnc) hb'
    ·simpa using this
    ·rw[Nat.zero_add,cell_of_row w' g j cur _ (0,0) hgg];have h1:(cur.toList.take ((0+L)*1))[j]? =some (.int .u32 ((D N j:Nat):Int)):=by rw[htake];simp[hj]
     rw[List.getElem?_take]at h1;split at h1
     ·simpa using h1
     ·cases h1
theorem gg {ops:Array Oper} {i:Nat} {d:Option Tmp} {o:Oper} {a:Act} {w:World} {K:Act→World→Prop} {Q:Exit→Act→World→Prop}
  (ho:ops[i]? =some o) (hd:o.dst=d) (hg:o.guard=none) (s x:Operand) (hop:o.op=Op.call {callee:=Callee.builtin Builtin.append,args:=#[s,x],argTypes:=#[29,29]})
  (base:Nat) (hbase:base≤w.heap.size) (so:Option Addr) (hs:a.eval s= .slice so 0 0) (ao:Option Addr) (L cap N:Nat) (hx:a.eval x= .slice ao L cap) (hr:Rw w ao L N) (hL:L≤30000000000000)
  (hK:∀a' c' w',gX w' base a' L N→L≤c'→Below w.heap.size w w'→K (a.put d (.slice a' L c')) w'):wpOp Tryz.prog ops Q i K a w:=
 wpOp_step ho (fun K' hK'=>lY hg s x hop base hbase so hs ao L cap N hx hr hL (fun a' c' w' h1 h2 h3=>hK' _ _ (by rw[hd];exact hK a' c' w' h1 h2 h3)))
theorem res_nat3 {fn:Func} {p q r:Tmp} (h:fn.results=#[.cell p 31,.cell q 31,.tmp r]) (tmps:Array Value) (w:World) (b1 b2:Nat) (v1 v2 u:Value)
  (hp:tmps.getD p undef= .pointer (some ⟨b1,0,none⟩)) (hq:tmps.getD q undef= .pointer (some ⟨b2,0,none⟩)) (hr:tmps.getD r undef=u) (hc1:w.cell? ⟨b1,0,none⟩=some v1) (hc2:w.cell? ⟨b2,0,none⟩=some v2):
  (results fn tmps).run Tryz.prog w= .ok (.tuple #[.agg #[v1],.agg #[v2],u]) w:=by
 have hp':tmps[p]?.getD undef= .pointer (some ⟨b1,0,none⟩):=by simpa using hp
 have hq':tmps[q]?.getD undef= .pointer (some ⟨b2,0,none⟩):=by simpa using hq
 have hr':tmps[r]?.getD undef=u:=by simpa using hr
 simp[results,h,hp',hq',hr',asAddr,loadVar,go_sem,hc1,hc2]
def io (W:World) (q r:Nat) (c:Int) (e:Ending) (w':World):Prop:=
 ∃vq vr,e= .returned (.tuple #[vq,vr,.int .i64 c])∧bj W.heap.size w' vq q∧bj W.heap.size w' vr r∧Below W.heap.size W w'
theorem Res2.ret {w w2:World} {r1 r2 q r:Nat} {u1 u2:Value} {c:Int} (h:Res2 w w2 r1 r2) (hq:bj (r2+1) w2 (.agg #[u1]) q) (hr:bj (r2+1) w2 (.agg #[u2]) r)
  {fn:Func} {p1 p2 p3:Tmp} {tmps:Array Value} (hres:fn.results=#[.cell p1 31,.cell p2 31,.tmp p3])
  (t1:tmps.getD p1 undef= .pointer (some ⟨r1,0,none⟩)) (t2:tmps.getD p2 undef= .pointer (some ⟨r2,0,none⟩)) (t3:tmps.getD p3 undef= .int .i64 c):
  bodyPost Tryz.prog fn (fun e w'=>io w q r c e w') .ret {tmps:=tmps,defers:=[]} ((w2.setCell ⟨r1,0,none⟩ u1).setCell ⟨r2,0,none⟩ u2):=by
 have hlt:=h.lt;have hfin:=h.fin (u1:=u1) (u2:=u2) hq hr;have hne:(⟨r1,0,none⟩:Addr)≠⟨r2,0,none⟩:=by intro e;cases e;omega
 have g1:((w2.setCell ⟨r1,0,none⟩ u1).setCell ⟨r2,0,none⟩ u2).cell? ⟨r1,0,none⟩=some u1:=by
  rw[World.cell?_setCell_other _ _ _ _ hne.symm];exact World.cell?_setCell_same _ _ _ h.cell1
 have g2:((w2.setCell ⟨r1,0,none⟩ u1).setCell ⟨r2,0,none⟩ u2).cell? ⟨r2,0,none⟩=some u2:=by
  refine World.cell?_setCell_same _ _ _ (u:=.slice none 0 0) ?_;rw[World.cell?_setCell_other _ _ _ _ hne];exact h.cell2
 exact bodyPost_ret (res_nat3 hres _ _ r1 r2 _ _ _ t1 t2 t3 g1 g2) rfl ⟨_,_,rfl,hfin.1,hfin.2.1,hfin.2.2⟩
theorem vI (w:World) (a b:Option Addr) (m ca n cb:Nat):Below w.heap.size w ((((w.alloc (.cells #[.slice a m ca] 31)).alloc (.cells #[.slice b n cb] 31)).alloc (.cells #[.slice none 0 0] 31)).alloc (.cells #[.slice none 0 0] 31)):=
 ((((Below.refl _ _).alloc (Nat.le_refl _) _).alloc (by simp) _).alloc (by simp;omega) _).alloc (by simp;omega) _
set_option maxRecDepth 100000 in
theorem qn (va vb:Value) (m n:Nat) (w:World) (ha:IsN w va m) (hb:IsN w vb n) (hm:nl m≤1000000000000) (hn:nl n≤1000000000000) (hmn:m<n):
  Calls Tryz.prog 200 #[va,vb] w fun e w'=>io w 0 m 0 e w':=by
 obtain⟨a,ca,rfl,hca,ra⟩:=ha;obtain⟨b,cb,rfl,hcb,rb⟩:=hb;have hw:=vI w a b (nl m) ca (nl n) cb;have ra':=ra.mono hw;have rb':=rb.mono hw;have hm':nl m≤9223372036854775807:=by omega
 have hn':nl n≤9223372036854775807:=by omega
 have hp:=fO (show n≠0 by omega);have hne:(((nl n:Nat):Int)==0)=false:=by rw[beq_eq_false_iff_ne];omega
 have hcm:cmpI m n= -1:=kB hmn;go_enter Tryz.func200,Tryz.ntmps200
 go_wp2_with fail
 go_quiet (first
  | (go_at_call 189;with_reducible exact dS (di a (nl m) ca m _ hm' hca (ra'.drewN _)))
  | (go_at_call 189;with_reducible exact dS (di b (nl n) cb n _ hn' hcb (rb'.drewN _))))
 go_upto_region 2 with(fail)
 go_cut [25] (fun s25 wx=>s25= .bool false∧Res2 w wx (w.heap.size+1+1) (w.heap.size+1+1+1))
 case first=>
  go_wp2_with fail
  go_meet;case rel=>exact⟨rfl,bg hw nq,by omega,by omega,by simp,by simp[go_sem],by simp[go_sem],by simp[go_sem],by simp[go_sem]⟩
 case rest=>
  obtain⟨rfl,hr⟩:=hcut;clear hw ra' rb';go_wp2_with fail
  refine(eO a b _ _ m n _ (ra.mono hr.below) (rb.mono hr.below) (by omega) (by omega)).mono ?_;rintro e w1 ⟨rfl,q,rfl⟩;have hr1:=hr.drewN q;have hown:=World.ownsRow_made (base:=wc.heap.size) (e:=237) (size:=1) (wc.drewN q) #[] 0 (Nat.le_refl _) (Nat.zero_le _) rfl;simp only[World.heap_drewN]at hown;have hr2:=hr1.after ((Below.refl (wc.drewN q).heap.size (wc.drewN q)).alloc (Nat.le_refl _) (.cells #[] 237));have ra2:=ra.mono hr2.below;go_wp2_with (at_builtin;refine eV rfl _ _ rfl wc.heap.size _ rfl hown (by simp) a (nl m) (nl m) m rfl ra2 (by omega) ?_)
  intro a' c' w' hcp hc' hgb;have hr3:=hr2.step (en hgb wc.heap.size (by simp) (fun k hk=>(hown.lt k hk).1)) hr.size;clear hgb hown ra2;go_wp2_with fail
  refine(fP a' (nl m) c' m _ (by omega) hc' (hcp.rw' (dO m))).mono ?_;rintro e w2 ⟨rfl,hb2⟩;have hr4:=hr3.after hb2;have hcp2:=hcp.mono hb2;obtain⟨q1,q2,q3,q4⟩:=And.intro hr4.cell1 (And.intro hr4.cell2 (And.intro hr4.frozen1 hr4.frozen2));go_wp2;exact hr4.ret (q:=0) (r:=m) (u1:=.slice none 0 0) bj.of_zero ((hcp2.newN (Nat.le_refl _)).weaken hr.size) rfl rfl rfl rfl
set_option maxRecDepth 100000 in
theorem rX (va vb:Value) (m n:Nat) (w:World) (ha:IsN w va m) (hb:IsN w vb n) (hm:nl m≤1000000000000) (hn1:nl n=1) (hmn:n≤m):
  Calls Tryz.prog 200 #[va,vb] w fun e w'=>io w (m / n) (m % n) 0 e w':=by
 have hn0:n≠0:=fun h=>by rw[h,bv]at hn1;omega
 have hn:nl n≤1000000000000:=by omega
 have hnB:n<4294967296:=by have h:=dO n;rw[hn1]at h;omega
 have hD0:D n 0=n:=by unfold D;rw[Nat.pow_zero,Nat.div_one];omega
 have HD0:=Lib.hid hD0;have HN1:=Lib.hid hn1;obtain⟨a,ca,rfl,hca,ra⟩:=ha;obtain⟨b,cb,rfl,hcb,rb⟩:=hb;have hw:=vI w a b (nl m) ca (nl n) cb;have ra':=ra.mono hw;have rb':=rb.mono hw;have hm':nl m≤9223372036854775807:=by omega
 have hn':nl n≤9223372036854775807:=by omega
 have hp:=fO hn0;have hne:(((nl n:Nat):Int)==0)=false:=by rw[beq_eq_false_iff_ne];omega
 have hcm:0≤cmpI m n:=by unfold cmpI;split<;>first | (exfalso;omega) | (split<;>omega)
 have hone:(((nl n:Nat):Int)==1)=true:=by rw[beq_iff_eq];omega
 obtain⟨b1,o1,rfl,hdb⟩:=rb.cells (by omega);clear hD0 hn1;go_enter Tryz.func200,Tryz.ntmps200
 go_wp2_with fail
 go_quiet (first
  | (go_at_call 189;with_reducible exact dS (di a (nl m) ca m _ hm' hca (ra'.drewN _)))
  | (go_at_call 189;with_reducible exact dS (di (some ⟨b1,o1,none⟩) (nl n) cb n _ hn' hcb (rb'.drewN _))))
 go_upto_region 2 with(fail)
 go_cut [25] (fun s25 wx=>s25= .bool false∧Res2 w wx (w.heap.size+1+1) (w.heap.size+1+1+1))
 case first=>
  go_wp2_with fail
  go_meet;case rel=>exact⟨rfl,bg hw nq,by omega,by omega,by simp,by simp[go_sem],by simp[go_sem],by simp[go_sem],by simp[go_sem]⟩
 case rest=>
  obtain⟨rfl,hr⟩:=hcut;clear hw ra' rb';go_wp2_with fail
  refine(eO a (some ⟨b1,o1,none⟩) _ _ m n _ (ra.mono hr.below) (rb.mono hr.below) (by omega) (by omega)).mono ?_;rintro e w1 ⟨rfl,q,rfl⟩;have hr1:=hr.drewN q;have c1:=(hdb.mono hr1.below (hdb.lt (by omega))) 0 (by omega);rw[HD0.out,Nat.add_zero]at c1;go_wp2_with fail
  refine(xN a (nl m) (nl m) m n _ (ra.mono hr1.below) hm (by omega) hnB).mono ?_;rintro e w2 ⟨g,rfl,hg,ho,hb2⟩;have hr2:=hr1.after hb2;have hbd:m % n<4294967296:=Nat.lt_trans (Nat.mod_lt _ (by omega)) hnB;go_wp2_with fail
  refine(fP _ (nl m) (nl m) (m / n) _ (by omega) (Nat.le_refl _) ho.rw').mono ?_;rintro e w3 ⟨rfl,hb3⟩;have hr3:=hr2.after hb3;have hq3:=bj.of_own (base:=w.heap.size+1+1+1+1) ho hb3 (Nat.le_trans hr.size hg);go_wp2_with fail
  refine(eH (m % n) _ (by omega)).mono ?_;rintro e w4 ⟨v,rfl,hv,hb4⟩;have hr4:=hr3.after hb4;have hq4:=hq3.mono hb4;have hv4:=hv.weaken hr3.size;obtain⟨av,cv,rfl,hcv,hxv⟩:=hv4;have hv5:bj (w.heap.size+1+1+1+1) w4 (.agg #[.slice av (nl (m % n)) cv]) (m % n):=⟨av,cv,rfl,hcv,hxv⟩;clear hxv hv;obtain⟨q1,q2,q3,q4⟩:=And.intro hr4.cell1 (And.intro hr4.cell2 (And.intro hr4.frozen1 hr4.frozen2));go_wp2;exact hr4.ret hq4 hv5 rfl rfl rfl rfl
end Go.Proofs.YtggfmklppkioeaaGreat
