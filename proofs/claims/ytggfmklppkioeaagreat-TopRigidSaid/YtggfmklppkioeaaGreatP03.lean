/- The mathematics of the long division. The contract of DivMod: the long division. The contract of DivMod. The contract of Gcd. The reference's Same, Valid; Few. Rows of digits that grow by append. The contract of natural.Parse. Decimal digits; rows of bytes that grow by append. -/
import Derived.Test.YtggfmklppkioeaaGreatP02
import Derived.Deep.CutBlock
import Derived.Laws.IdiomStrings
namespace Go.Proofs.YtggfmklppkioeaaGreat
set_option linter.unusedSimpArgs false
set_option linter.unusedVariables false
set_option maxRecDepth 100000
open Go.RowKit
theorem vJ {n:Nat} (hn:n≠0):∃s:Nat,(32 - ((Lib.bitLen (D n (nl n - 1)):Nat):Int))=(s:Int)∧s<32∧n*2^s<4294967296^nl n∧2147483648≤D (n*2^s) (nl n - 1):=by
 have h1:=fO hn;have h2:=D_top hn;have h3:=dO n;obtain⟨k,hk⟩:∃k,nl n=k+1:=⟨nl n - 1,by omega⟩;rw[hk]at h2 h3⊢;simp only[Nat.add_sub_cancel]at h2⊢;have hD:D n k=n / 4294967296^k:=by
  unfold D;rw[Nat.mod_eq_of_lt];rw[Nat.div_lt_iff_lt_mul (cG k),←Nat.pow_succ'];exact h3
 have hlt:=dD n k;have hl:(D n k).log2<32:=(Nat.log2_lt h2).2 (by omega);have hb:=yW (t:=D n k) (k:=(D n k).log2) (by omega) (Nat.log2_self_le h2) Nat.lt_log2_self;have g1:=Nat.log2_self_le h2;have g2:D n k<2^((D n k).log2+1):=Nat.lt_log2_self;have hdm:=Nat.div_add_mod n (4294967296^k);have hml:=Nat.mod_lt n (cG k);rw[hD]at *;generalize hL:(n / 4294967296^k).log2=l at *;generalize n / 4294967296^k=t at *;have e1:2^(l+1)*2^(31 - l)=4294967296:=by rw[←Nat.pow_add,show l+1+(31 - l)=32 by omega]
 have e2:2^l*2^(31 - l)=2147483648:=by rw[←Nat.pow_add,show l+(31 - l)=31 by omega]
 have u1:n*2^(31 - l)<4294967296^(k+1):=by
  have a1:n<4294967296^k*(t+1):=by rw[Nat.mul_add];omega
  have a2:=Nat.mul_lt_mul_of_pos_right a1 (show 0<2^(31 - l)from Nat.pow_pos (by decide));have a3:4294967296^k*(t+1)*2^(31 - l)≤4294967296^k*(2^(l+1)*2^(31 - l)):=by
   rw[Nat.mul_assoc];exact Nat.mul_le_mul_left _ (Nat.mul_le_mul_right _ g2)
  rw[e1]at a3;rw[Nat.pow_succ];exact Nat.lt_of_lt_of_le a2 a3
 refine⟨31 - l,by rw[hb];omega,by omega,u1,?_⟩;have v1:2147483648≤n*2^(31 - l) / 4294967296^k:=by
  rw[Nat.le_div_iff_mul_le (cG k),←e2];have a1:4294967296^k*2^l≤n:=Nat.le_trans (Nat.mul_le_mul_left _ g1) (by omega);have a2:=Nat.mul_le_mul_right (2^(31 - l)) a1;have e3:2^l*2^(31 - l)*4294967296^k=4294967296^k*2^l*2^(31 - l):=by
   rw[Nat.mul_comm _ (4294967296^k),Nat.mul_assoc]
  rw[e3];exact a2
 unfold D;rw[Nat.mod_eq_of_lt]
 ·exact v1
 ·rw[Nat.div_lt_iff_lt_mul (cG k),←Nat.pow_succ'];exact u1
def dI (U V k:Nat):Nat:=U / 4294967296^k % V*4294967296^k+U % 4294967296^k
theorem tK {U V k:Nat} (h:U / 4294967296^k<V):dI U V k=U:=by
 unfold dI;rw[Nat.mod_eq_of_lt h,Nat.mul_comm];exact Nat.div_add_mod _ _
theorem vK (U V:Nat):dI U V 0=U % V:=by unfold dI;simp[Nat.mod_one]
theorem oa (U V k:Nat):dI U V (k+1)=4294967296^k*(U / 4294967296^(k+1) % V*4294967296+D U k)+U % 4294967296^k:=by
 unfold dI;rw[ct,Nat.pow_succ];grind
theorem lZ (U V k:Nat):dI U V (k+1) / 4294967296^k=U / 4294967296^(k+1) % V*4294967296+D U k:=by
 rw[oa,Nat.mul_add_div (cG k),Nat.div_eq_of_lt (Nat.mod_lt _ (cG k)),Nat.add_zero]
theorem win_lt (U V k:Nat) (hV:0<V):U / 4294967296^(k+1) % V*4294967296+D U k<V*4294967296:=by
 have h1:=Nat.mod_lt (U / 4294967296^(k+1)) hV;have h2:=dD U k;generalize U / 4294967296^(k+1) % V=r at *;omega
theorem remAt_lt {U V k N:Nat} (hV:0<V) (hVN:V<4294967296^N):dI U V (k+1)<4294967296^(k+N+1):=by
 have h1:=win_lt U V k hV;have h2:=Nat.mod_lt U (cG k);rw[oa];generalize U / 4294967296^(k+1) % V*4294967296+D U k=W at *;have h3:4294967296^k*(W+1)≤4294967296^k*(4294967296^N*4294967296):=Nat.mul_le_mul_left _ (by
  have:=Nat.mul_le_mul_right 4294967296 (Nat.le_of_lt hVN);omega)
 have e:4294967296^(k+N+1)=4294967296^k*(4294967296^N*4294967296):=by rw[Nat.pow_succ,Nat.pow_add,Nat.mul_assoc]
 rw[e,];rw[Nat.mul_add]at h3;omega
theorem vL (U V k:Nat) (hV:0<V):dI U V (k+1) - 4294967296^k*(dI U V (k+1) / 4294967296^k / V*V)=dI U V k:=by
 rw[lZ,oa];have h1:=(qA (U / 4294967296^(k+1)) (D U k) V hV).2;rw[←cR U k]at h1;unfold dI;rw[h1,Nat.mul_comm 4294967296 (U / 4294967296^(k+1) % V)];generalize U / 4294967296^(k+1) % V*4294967296+D U k=W at *;have h2:=Nat.div_add_mod W V;have h3:4294967296^k*W=4294967296^k*(W / V*V)+W % V*4294967296^k:=by
  rw[Nat.mul_comm (W % V),←Nat.mul_add,Nat.mul_comm (W / V),h2]
 rw[h3];omega
theorem quo_step (U V k:Nat) (hV:0<V):upd (ce U V (k+1)) k (dI U V (k+1) / 4294967296^k / V)=ce U V k∧dI U V (k+1) / 4294967296^k / V<4294967296:=by
 have h:=kD U V k hV;rw[lZ];exact⟨h.1,h.2.2⟩
theorem rY {B W V P T V2 w0 v0:Nat} (hP:0<P) (hW:W=T*P+w0) (hw:w0<P) (hV:V=V2*P+v0) (hv:v0<P) (hB:B≤V2) (hq:W / V<B) (hB0:0<B):
  W / V≤fB B T V2∧fB B T V2≤W / V+1:=by
 have hV2:0<V2:=by omega
 have hVp:0<V:=by have:=Nat.mul_pos hV2 hP;omega
 constructor
 ·have h1:W / V*V≤W:=Nat.div_mul_le_self _ _;have h2:W / V*V2≤T:=by
   have h3:W / V*V2*P≤W / V*V:=by
    rw[Nat.mul_assoc];exact Nat.mul_le_mul_left _ (by omega)
   have h4:W / V*V2*P<(T+1)*P:=by rw[Nat.add_mul];omega
   have:=Nat.lt_of_mul_lt_mul_right h4;omega
  have h5:W / V≤T / V2:=(Nat.le_div_iff_mul_le hV2).2 h2;unfold fB;omega
 ·generalize hqq:fB B T V2=q;have h1:q≤B - 1:=by rw[←hqq];unfold fB;omega
  have h2:q*V2≤T:=by
   have:q≤T / V2:=by rw[←hqq];unfold fB;omega
   exact(Nat.le_div_iff_mul_le hV2).1 this
  rcases Nat.eq_zero_or_pos q with h0 | h0
  ·rw[h0];exact Nat.zero_le _
  ·obtain⟨z,rfl⟩:∃z,q=z+1:=⟨q - 1,by omega⟩;have h3:z*V≤W:=by
    have h4:z*V≤z*(V2*P+P):=Nat.mul_le_mul_left _ (by omega);have h5:z*(V2*P+P)≤T*P:=by
     have h6:(z*V2+z)*P≤T*P:=Nat.mul_le_mul_right _ (by rw[Nat.add_mul]at h2;omega);have e:z*(V2*P+P)=(z*V2+z)*P:=by grind
     rw[e];exact h6
    omega
   have:z≤W / V:=(Nat.le_div_iff_mul_le hVp).2 h3;omega
theorem knuth {C V k N:Nat} (hN:2≤N) (hVN:V<4294967296^N) (htop:2147483648≤D V (N - 1)) (hC:C<4294967296^(k+N+1)) (hW:C / 4294967296^k<V*4294967296):
  D C (k+N)≤D V (N - 1)∧
  C / 4294967296^k / V≤fB 4294967296 ((D C (k+N)*4294967296+D C (k+N - 1))*4294967296+D C (k+N - 2)) (D V (N - 1)*4294967296+D V (N - 2))∧
  fB 4294967296 ((D C (k+N)*4294967296+D C (k+N - 1))*4294967296+D C (k+N - 2)) (D V (N - 1)*4294967296+D V (N - 2))≤C / 4294967296^k / V+1:=by
 obtain⟨j,rfl⟩:∃j,N=j+2:=⟨N - 2,by omega⟩;have e1:k+(j+2) - 1=k+j+1:=by omega
 have e2:k+(j+2) - 2=k+j:=by omega
 have e3:j+2 - 1=j+1:=by omega
 have e4:j+2 - 2=j:=by omega
 have e5:k+(j+2)=k+j+2:=by omega
 rw[e3]at htop;rw[e1,e2,e3,e4,e5];rw[show k+(j+2)+1=k+j+3 by omega]at hC;have c3:C / 4294967296^(k+j+3)=0:=Nat.div_eq_of_lt hC;have c2:=cR C (k+j+2);have c1:=cR C (k+j+1);have c0:=cR C (k+j);rw[c3,Nat.mul_zero,Nat.zero_add]at c2;rw[show k+j+1+1=k+j+2 by omega,c2]at c1;rw[c1]at c0;have v2:V / 4294967296^(j+2)=0:=Nat.div_eq_of_lt hVN;have v1:=cR V (j+1);have v0:=cR V j;rw[show j+1+1=j+2 by omega,v2,Nat.mul_zero,Nat.zero_add]at v1;rw[v1]at v0;have hVpos:0<V:=by
  rcases Nat.eq_zero_or_pos V with h | h
  ·rw[h,D_zero]at htop;omega
  ·exact h
 have hWj:C / 4294967296^k / 4294967296^j=(D C (k+j+2)*4294967296+D C (k+j+1))*4294967296+D C (k+j):=by
  rw[Nat.div_div_eq_div_mul,←Nat.pow_add,c0];omega
 have hVj:V / 4294967296^j=D V (j+1)*4294967296+D V j:=by rw[v0];omega
 have hWd:=Nat.div_add_mod (C / 4294967296^k) (4294967296^j);have hVd:=Nat.div_add_mod V (4294967296^j);rw[hWj]at hWd;rw[hVj]at hVd;rw[Nat.mul_comm]at hWd hVd;have hgb:=rY (B:=4294967296) (W:=C / 4294967296^k) (V:=V) (P:=4294967296^j) (T:=(D C (k+j+2)*4294967296+D C (k+j+1))*4294967296+D C (k+j)) (V2:=D V (j+1)*4294967296+D V j)
  (cG j) hWd.symm (Nat.mod_lt _ (cG j)) hVd.symm (Nat.mod_lt _ (cG j)) (by omega) ((Nat.div_lt_iff_lt_mul hVpos).2 (by rw[Nat.mul_comm];exact hW)) (by decide)
 refine⟨?_,hgb.1,hgb.2⟩;have t1:C / 4294967296^k / 4294967296≤V:=by
  have:C / 4294967296^k / 4294967296<V:=(Nat.div_lt_iff_lt_mul (by decide)).2 hW;omega
 have t2:=Nat.div_le_div_right (c:=4294967296^(j+1)) t1;rw[v1,Nat.div_div_eq_div_mul,Nat.div_div_eq_div_mul]at t2;rw[show 4294967296^k*(4294967296*4294967296^(j+1))=4294967296^(k+j+2)by rw[←Nat.pow_succ',←Nat.pow_add];congr 1]at t2;rw[c2]at t2;exact t2
theorem za {m n s a N:Nat} (hm:m<4294967296^a) (hs:s<32) (hN:1≤N) (hNa:N≤a) (htop:2147483648≤D (n*2^s) (N - 1)):m*2^s / 4294967296^(a - N+1)<n*2^s:=by
 rw[Nat.div_lt_iff_lt_mul (cG _)];have h1:m*2^s<4294967296^a*2147483648:=by
  have h2:2^s≤2147483648:=by
   have:=Nat.pow_le_pow_right (n:=2) (by decide) (show s≤31 by omega);exact Nat.le_trans this (by decide)
  exact Nat.lt_of_lt_of_le (Nat.mul_lt_mul_of_pos_right hm (Nat.pow_pos (by decide))) (Nat.mul_le_mul_left _ h2)
 have h3:2147483648*4294967296^(N - 1)≤n*2^s:=by
  have h4:2147483648≤n*2^s / 4294967296^(N - 1):=Nat.le_trans htop (Nat.mod_le _ _);exact(Nat.le_div_iff_mul_le (cG _)).1 h4
 have h5:=Nat.mul_le_mul_right (4294967296^(a - N+1)) h3;rw[Nat.mul_assoc,←Nat.pow_add,show N - 1+(a - N+1)=a by omega,Nat.mul_comm]at h5;omega
theorem aU.kept {w w':World} {g L N:Nat} {row:Option Nat} (h:aU w g L N) (hg:w.grownBy w' row) (hne:some g≠row):aU w' g L N:=h.block (hg.block g h.lt hne)
theorem Dig.setOther {w:World} {b off L N:Nat} (h:Dig w b off L N) (p:Addr) (u:Value) (hp:p.block≠b):Dig (w.setCell p u) b off L N:=fun j hj=>by
 rw[World.cell?_setCell_other _ _ _ _ (by intro e;subst e;exact hp rfl)];exact h j hj
theorem unshift (x s i:Nat) (hs:s<32):(D (x*2^s) (i+1)*4294967296+D (x*2^s) i) / 2^s % 4294967296=D x i:=by
 have hB:(4294967296:Nat)=2^s*2^(32 - s):=by rw[←Nat.pow_add,show s+(32 - s)=32 by omega]
 have h2:0<2^s:=Nat.pow_pos (by decide);have e1:D (x*2^s) (i+1)*4294967296+D (x*2^s) i=x*2^s / 4294967296^i % (4294967296*4294967296):=by
  unfold D;rw[Nat.pow_succ,←Nat.div_div_eq_div_mul,Nat.mod_mul];omega
 have e2:(4294967296:Nat)*4294967296=2^s*(2^(32 - s)*4294967296):=by rw[←Nat.mul_assoc,←hB]
 rw[e1,e2,Nat.mod_mul_right_div_self,Nat.mod_mod_of_dvd _ (Nat.dvd_mul_left _ _),Nat.div_div_eq_div_mul,Nat.mul_comm (4294967296^i),←Nat.div_div_eq_div_mul,Nat.mul_div_cancel _ h2];rfl
set_option maxRecDepth 100000 in
set_option maxHeartbeats 4000000 in
theorem rZ (va vb:Value) (m n:Nat) (w:World) (ha:IsN w va m) (hb:IsN w vb n) (hm:nl m≤1000000000000) (hn:nl n≤1000000000000) (hn1:2≤nl n) (hmn:n≤m):
  Calls Tryz.prog 200 #[va,vb] w fun e w'=>io w (m / n) (m % n) 0 e w':=by
 have hn0:n≠0:=fun h=>by rw[h,bv]at hn1;omega
 obtain⟨a,ca,rfl,hca,ra⟩:=ha;obtain⟨b,cb,rfl,hcb,rb⟩:=hb;have hw:=vI w a b (nl m) ca (nl n) cb;have ra':=ra.mono hw;have rb':=rb.mono hw;have hm':nl m≤9223372036854775807:=by omega
 have hn':nl n≤9223372036854775807:=by omega
 have hp:=fO hn0;have hne:(((nl n:Nat):Int)==0)=false:=by rw[beq_eq_false_iff_ne];omega
 have hcm:0≤cmpI m n:=by unfold cmpI;split<;>first | (exfalso;omega) | (split<;>omega)
 have hone:(((nl n:Nat):Int)==1)=false:=by rw[beq_eq_false_iff_ne];omega
 have hmnl:nl n≤nl m:=dH hmn;have HTOP:=Lib.hid (D_top hn0);obtain⟨b1,o1,rfl,hdb⟩:=rb.cells (by omega);go_enter Tryz.func200,Tryz.ntmps200
 go_wp2_with fail
 go_quiet (first
  | (go_at_call 189;with_reducible exact dS (di a (nl m) ca m _ hm' hca (ra'.drewN _)))
  | (go_at_call 189;with_reducible exact dS (di (some ⟨b1,o1,none⟩) (nl n) cb n _ hn' hcb (rb'.drewN _))))
 go_upto_region 2 with(fail)
 go_cut [25] (fun s25 wx=>s25= .bool false∧Res2 w wx (w.heap.size+1+1) (w.heap.size+1+1+1))
 case first=>
  go_wp2_with fail
  go_meet;case rel=>exact⟨rfl,bg hw nq,by omega,by omega,by simp,by simp[go_sem],by simp[go_sem],by simp[go_sem],by simp[go_sem]⟩
 case rest=>
  obtain⟨rfl,hr⟩:=hcut;clear hw ra' rb';go_wp2_with fail
  refine(eO a (some ⟨b1,o1,none⟩) _ _ m n _ (ra.mono hr.below) (rb.mono hr.below) (by omega) (by omega)).mono ?_;rintro e w1 ⟨rfl,q,rfl⟩;have hr1:=hr.drewN q;have c1:=(hdb.mono hr1.below (hdb.lt (by omega))) (nl n - 1) (by omega);have e1:((nl n:Int) - 1)=((nl n - 1:Nat):Int):=by omega
  have hdt:=dD n (nl n - 1);have hbl:=Lib.bitLen_le (D n (nl n - 1)) 32 (by omega) (by omega);go_wp2_with fail
  refine(c_lz32 _ _ (by omega) (by omega)).mono ?_;rintro e w2 ⟨rfl,rfl⟩;rw[Int.toNat_natCast];obtain⟨s,hs,hs32,hVlt,hVtop⟩:=vJ hn0;rw[hs];go_upto_region 11 with(fail)
  go_cut [13,14] (fun s13 s14 wx=>∃g1 g2 c2,s13= .slice (some ⟨g1,0,none⟩) (nl m+1) (nl m+1)∧s14= .slice (some ⟨g2,0,none⟩) (nl n) c2∧aU wx g1 (nl m+1) (m*2^s)∧Dig wx g2 0 (nl n) (n*2^s)∧g2≠g1∧
    Res2 w wx (w.heap.size+1+1) (w.heap.size+1+1+1)∧w.heap.size+1+1+1<g1∧w.heap.size+1+1+1<g2)
  case first=>
   go_region_with (first
    | (go_at_call_of 243 (Value.slice a (nl m) (nl m));refine(qB a (nl m) (nl m) m s _ (ra.mono (hr.drewN _).below) hm hs32).mono ?_;rintro e w2 ⟨g1,rfl,hg1,ho1,hb1⟩)
    | (go_at_call_of 243 (Value.slice (some ⟨b1,o1,none⟩) (nl n) (nl n));refine(qB _ (nl n) (nl n) n s _ (rb.mono ((hr.drewN _).after hb1).below) hn hs32).mono ?_;rintro e w3 ⟨g2,rfl,hg2,ho2,hb2⟩))
   go_wp2_with fail
   go_meet;have hl1:=ho1.lt;have hsz:=hr.size;have hg1':wc.heap.size≤g1:=hg1;have hb1':=hb1.size;have hb1'':wc.heap.size≤w2.heap.size:=hb1';case rel=>exact⟨g1,g2,_,rfl,rfl,ho1.mono hb2 ho1.lt,fun j hj=>ho2.dig j (by omega),by omega,((hr.drewN _).after hb1).after hb2,by omega,by omega⟩
  case rest=>
   obtain⟨g1,g2,c2,rfl,rfl,ho1,hd2,hne21,hr2,hlt1,hlt2⟩:=hcut;clear hr hr1 c1 hdb;go_upto_region 12 with(fail)
   go_cut [15] (fun s15 wx=>∃g3,s15= .slice (some ⟨g3,0,none⟩) (nl m - nl n+1:Nat) (nl m - nl n+1:Nat)∧aU wx g3 (nl m - nl n+1) 0∧aU wx g1 (nl m+1) (m*2^s)∧Dig wx g2 0 (nl n) (n*2^s)∧
     Res2 w wx (w.heap.size+1+1) (w.heap.size+1+1+1)∧w.heap.size+1+1+1<g3∧g3≠g1∧g3≠g2)
   case first=>
    have hl1:=ho1.lt;have hl2:=hd2.lt (by omega);have hsz:=hr2.size;have e2:((nl m:Int) - (nl n:Int)+1)=((nl m - nl n+1:Nat):Int):=by omega
    have E2:=Lib.hid e2;clear e2;go_wp2_with (at_make;refine bK rfl _ _ rfl _ _ _ _ (nl m - nl n+1) rfl rfl (by omega) (by omega) (by omega) ?_)
    go_meet;have hb:=(Below.refl wc.heap.size wc).alloc (Nat.le_refl _) (zrow (nl m - nl n+1));case rel=>exact⟨_,rfl,aU.made _ _,ho1.mono hb hl1,hd2.mono hb hl2,hr2.after hb,by omega,by omega,by omega⟩
   case rest=>
    obtain⟨g3,rfl,ho3,ho1',hd2',hr3,hlt3,h31,h32⟩:=hcut;clear ho1 hd2 hr2;go_wp2_with fail
    go_loopw [16] (fun s16 wr=>∃k:Nat,k≤nl m - nl n+1∧s16= .int .i64 ((k:Int) - 1)∧aU wr g3 (nl m - nl n+1) (ce (m*2^s) (n*2^s) k)∧aU wr g1 (nl m+1) (dI (m*2^s) (n*2^s) k)∧
      Dig wr g2 0 (nl n) (n*2^s)∧Res2 w wr (w.heap.size+1+1) (w.heap.size+1+1+1))
     (fun i _=>(intOf i+1).toNat)
    case atStart=>
     have hfr:=za (n:=n) (dO m) hs32 (by omega) hmnl hVtop;have e3:dI (m*2^s) (n*2^s) (nl m - nl n+1)=m*2^s:=tK hfr;have e4:ce (m*2^s) (n*2^s) (nl m - nl n+1)=0:=by unfold ce;rw[Nat.div_eq_of_lt hfr];rfl
     exact⟨nl m - nl n+1,Nat.le_refl _,by rw[show(((nl m - nl n+1:Nat):Int) - 1)=((nl m - nl n:Nat):Int)by omega],by rw[e4];exact ho3,by rw[e3];exact ho1',hd2',hr3⟩
    case round=>
     obtain⟨k,hk,rfl,ho,hu,hd,hrr⟩:=hrel;clear ho3 ho1' hd2' hr3;have hV0:0<n*2^s:=Nat.mul_pos (by omega) (Nat.pow_pos (by decide))
     cases k with
     | zero=>
      simp only[show(((0:Nat):Int) - 1)= -1 from rfl];have hdiv0:ce (m*2^s) (n*2^s) 0=m / n:=by unfold ce;rw[Nat.pow_zero,Nat.one_mul,Nat.div_one];exact Nat.mul_div_mul_right _ _ (Nat.pow_pos (by decide))
      have hrem0:dI (m*2^s) (n*2^s) 0=m % n*2^s:=by rw[vK];exact Nat.mul_mod_mul_right _ _ _
      rw[hdiv0]at ho;rw[hrem0]at hu;have hxlt:m % n<4294967296^nl n:=Nat.lt_trans (Nat.mod_lt _ (by omega)) (dO n);clear hdiv0 hrem0 hd;go_upto_region 17 with(fail)
      go_cut [17] (fun s17 wx=>∃g4,s17= .slice (some ⟨g4,0,none⟩) (nl n) (nl n)∧aU wx g4 (nl n) 0∧aU wx g3 (nl m - nl n+1) (m / n)∧Dig wx g1 0 (nl m+1) (m % n*2^s)∧
       Res2 w wx (w.heap.size+1+1) (w.heap.size+1+1+1)∧g1<g4∧g3<g4)
      case first=>
       have hl1:=hu.lt;have hl3:=ho.lt;go_wp2_with (at_make;refine bK rfl _ _ rfl _ _ _ _ (nl n) rfl rfl (by omega) (by omega) (by omega) ?_)
       go_meet;have hb:=(Below.refl wr.heap.size wr).alloc (Nat.le_refl _) (zrow (nl n));case rel=>exact⟨_,rfl,aU.made _ _,ho.mono hb hl3,hu.dig.mono hb hl1,hrr.after hb,hl1,hl3⟩
      case rest=>
       obtain⟨g4,rfl,ho4,ho3',hd1,hr4,h14,h34⟩:=hcut;clear ho hu hrr;go_wp2_with fail
       go_loopw [128] (fun s128 wq=>∃i:Nat,i≤nl n∧s128= .int .i64 i∧aU wq g4 (nl n) (m % n % 4294967296^i)∧Below g4 wc wq)
        (fun i _=>nl n - (intOf i).toNat)
       case atStart=>exact⟨0,Nat.zero_le _,rfl,by simpa [Nat.mod_one]using ho4,Below.refl _ _⟩
       case round=>
        obtain⟨i,hi,rfl,hox,hbx⟩:=hrel;by_cases hlt:i<nl n
        ·have hdx:=hd1.mono hbx h14;have c1:=hdx i (by omega);have c2:=hdx (i+1) (by omega);simp only[Nat.zero_add]at c1 c2;have hdl1:=dD (m % n*2^s) i;have hdl2:=dD (m % n*2^s) (i+1);have hor:=or32 (D (m % n*2^s) (i+1)) (D (m % n*2^s) i) (by omega) (by omega) (by omega) (by omega);have c3:=hox.cell hlt;have f3:=hox.frozen i;have HST:Hid (aU (wr.setCell ⟨g4,i,none⟩ (.int .u32 ((D (m % n) i:Nat):Int))) g4 (nl n) (m % n % 4294967296^(i+1))):=by
          show aU _ _ _ _;rw[←nI];exact hox.store hlt (dD _ _)
         have hbs:=hbx.setCell (p:=⟨g4,i,none⟩) (Nat.le_refl _) (.int .u32 ((D (m % n) i:Nat):Int));have x1:IntKind.i64.wrap ((i:Int)+1)=(i:Int)+1:=by rw[IntKind.wrap_i64];omega
         have y1:((i:Int)+1).toNat=i+1:=by omega
         have z1:IntKind.u64.wrap ((D (m % n*2^s) (i+1):Nat):Int)=((D (m % n*2^s) (i+1):Nat):Int):=by rw[IntKind.wrap_u64];omega
         have z2:IntKind.u64.wrap ((D (m % n*2^s) i:Nat):Int)=((D (m % n*2^s) i:Nat):Int):=by rw[IntKind.wrap_u64];omega
         have z3:IntKind.u64.wrap (((D (m % n*2^s) (i+1):Nat):Int)*4294967296)=((D (m % n*2^s) (i+1):Nat):Int)*4294967296:=by rw[IntKind.wrap_u64];omega
         have HBK:=Lib.hid (unshift (m % n) s i hs32);have z4:IntKind.u32.wrap ((((D (m % n*2^s) (i+1):Nat):Int)*4294967296+((D (m % n*2^s) i:Nat):Int)) / 2^s)=((D (m % n) i:Nat):Int):=by
          rw[←HBK.out,IntKind.wrap_u32];simp
         go_wp2_with fail
         refine wp_region_any (by kernel_rfl) ?_
         change wpAny _ _ _ _ _ _ _ (World.drew _)
         refine wpAny_take (i:=0) (v:=?v21_0_1) rfl (by kernel_rfl) (by kernel_rfl) (by kernel_rfl) (fun _ _ _ h=>h) (Or.inl ⟨by rfl,?hy21_0_1⟩) ?_;case hy21_0_1=>(intro w;go_simp;try with_reducible rfl)
         try simp only[Act.put,List.setIfInBounds_toArray,List.set_cons_zero,List.set_cons_succ]
         refine wpAny_take (i:=1) (v:=?v21_1_2) rfl (by kernel_rfl) (by kernel_rfl) (by kernel_rfl) (fun _ _ _ h=>h) (Or.inl ⟨by rfl,?hy21_1_2⟩) ?_;case hy21_1_2=>(intro w;go_simp;try with_reducible rfl)
         try simp only[Act.put,List.setIfInBounds_toArray,List.set_cons_zero,List.set_cons_succ]
         refine wpAny_take (i:=2) (v:=?v21_2_3) rfl (by kernel_rfl) (by kernel_rfl) (by kernel_rfl) (fun _ _ _ h=>h) (Or.inl ⟨by rfl,?hy21_2_3⟩) ?_;case hy21_2_3=>(intro w;go_simp;try with_reducible rfl)
         try simp only[Act.put,List.setIfInBounds_toArray,List.set_cons_zero,List.set_cons_succ]
         refine wpAny_take (i:=3) (v:=?v21_3_4) rfl (by kernel_rfl) (by kernel_rfl) (by kernel_rfl) (fun _ _ _ h=>h) (Or.inl ⟨by rfl,?hy21_3_4⟩) ?_;case hy21_3_4=>(intro w;go_simp;try with_reducible rfl)
         try simp only[Act.put,List.setIfInBounds_toArray,List.set_cons_zero,List.set_cons_succ]
         refine wpAny_take (i:=4) (v:=?v21_4_5) rfl (by kernel_rfl) (by kernel_rfl) (by kernel_rfl) (fun _ _ _ h=>h) (Or.inl ⟨by rfl,?hy21_4_5⟩) ?_;case hy21_4_5=>(intro w;go_simp;try with_reducible rfl)
         try simp only[Act.put,List.setIfInBounds_toArray,List.set_cons_zero,List.set_cons_succ]
         refine wpAny_take (i:=5) (v:=?v21_5_6) rfl (by kernel_rfl) (by kernel_rfl) (by kernel_rfl) (fun _ _ _ h=>h) (Or.inl ⟨by rfl,?hy21_5_6⟩) ?_;case hy21_5_6=>(intro w;go_simp;first | with_reducible rfl | rw[if_pos (by omega)];try with_reducible rfl)
         try simp only[Act.put,List.setIfInBounds_toArray,List.set_cons_zero,List.set_cons_succ]
         refine wpAny_take (i:=9) (v:=?v21_9_7) rfl (by kernel_rfl) (by kernel_rfl) (by kernel_rfl) (fun _ _ _ h=>h) (Or.inl ⟨by rfl,?hy21_9_7⟩) ?_;case hy21_9_7=>(intro w;go_simp;try with_reducible rfl)
         try simp only[Act.put,List.setIfInBounds_toArray,List.set_cons_zero,List.set_cons_succ]
         refine wpAny_take (i:=10) (v:=?v21_10_8) rfl (by kernel_rfl) (by kernel_rfl) (by kernel_rfl) (fun _ _ _ h=>h) (Or.inl ⟨by rfl,?hy21_10_8⟩) ?_;case hy21_10_8=>(intro w;go_simp;try with_reducible rfl)
         try simp only[Act.put,List.setIfInBounds_toArray,List.set_cons_zero,List.set_cons_succ]
         refine wpAny_take (i:=11) (v:=?v21_11_9) rfl (by kernel_rfl) (by kernel_rfl) (by kernel_rfl) (fun _ _ _ h=>h) (Or.inl ⟨by rfl,?hy21_11_9⟩) ?_;case hy21_11_9=>(intro w;go_simp;first | with_reducible rfl | rw[if_pos (by omega)];try with_reducible rfl)
         try simp only[Act.put,List.setIfInBounds_toArray,List.set_cons_zero,List.set_cons_succ]
         refine wpAny_take (i:=15) (v:=?v21_15_10) rfl (by kernel_rfl) (by kernel_rfl) (by kernel_rfl) (fun _ _ _ h=>h) (Or.inl ⟨by rfl,?hy21_15_10⟩) ?_;case hy21_15_10=>(intro w;go_simp;try with_reducible rfl)
         try simp only[Act.put,List.setIfInBounds_toArray,List.set_cons_zero,List.set_cons_succ]
         refine wpAny_ready (rs:=[6,12]) (by kernel_rfl) (by simp) ?_;refine AllReady.cons rfl (fun K hK=> ?_) ?_
         ·go_simp
          refine hK _ _ ?_;clear hK K;try simp only[Act.put,List.setIfInBounds_toArray,List.set_cons_zero,List.set_cons_succ]
          refine wpAny_take (i:=7) (v:=?v21_7_12) rfl (by kernel_rfl) (by kernel_rfl) (by kernel_rfl) (fun _ _ _ h=>h) (Or.inl ⟨by rfl,?hy21_7_12⟩) ?_;case hy21_7_12=>(intro w;go_simp;try with_reducible rfl)
          try simp only[Act.put,List.setIfInBounds_toArray,List.set_cons_zero,List.set_cons_succ]
          refine wpAny_take (i:=8) (v:=?v21_8_13) rfl (by kernel_rfl) (by kernel_rfl) (by kernel_rfl) (fun _ _ _ h=>h) (Or.inl ⟨by rfl,?hy21_8_13⟩) ?_;case hy21_8_13=>(intro w;go_simp;try with_reducible rfl)
          try simp only[Act.put,List.setIfInBounds_toArray,List.set_cons_zero,List.set_cons_succ]
          refine wpAny_ready (rs:=[12]) (by kernel_rfl) (by simp) ?_;refine AllReady.cons rfl (fun K hK=> ?_) AllReady.nil;go_simp;refine hK _ _ ?_;clear hK K;try simp only[Act.put,List.setIfInBounds_toArray,List.set_cons_zero,List.set_cons_succ]
          refine wpAny_take (i:=13) (v:=?v21_13_15) rfl (by kernel_rfl) (by kernel_rfl) (by kernel_rfl) (fun _ _ _ h=>h) (Or.inl ⟨by rfl,?hy21_13_15⟩) ?_;case hy21_13_15=>(intro w;go_simp;try with_reducible rfl)
          try simp only[Act.put,List.setIfInBounds_toArray,List.set_cons_zero,List.set_cons_succ]
          refine wpAny_take (i:=14) (v:=?v21_14_16) rfl (by kernel_rfl) (by kernel_rfl) (by kernel_rfl) (fun _ _ _ h=>h) (Or.inl ⟨by rfl,?hy21_14_16⟩) ?_;case hy21_14_16=>(intro w;go_simp;try with_reducible rfl)
          try simp only[Act.put,List.setIfInBounds_toArray,List.set_cons_zero,List.set_cons_succ]
          refine wpAny_take (i:=16) (v:=?v21_16_17) rfl (by kernel_rfl) (by kernel_rfl) (by kernel_rfl) (fun _ _ _ h=>h) (Or.inl ⟨by rfl,?hy21_16_17⟩) ?_;case hy21_16_17=>(intro w;go_simp;try with_reducible rfl)
          try simp only[Act.put,List.setIfInBounds_toArray,List.set_cons_zero,List.set_cons_succ]
          refine wpAny_take (i:=17) (v:=?v21_17_18) rfl (by kernel_rfl) (by kernel_rfl) (by kernel_rfl) (fun _ _ _ h=>h) (Or.inl ⟨by rfl,?hy21_17_18⟩) ?_;case hy21_17_18=>(intro w;go_simp;try with_reducible rfl)
          try simp only[Act.put,List.setIfInBounds_toArray,List.set_cons_zero,List.set_cons_succ]
          refine wpAny_take (i:=18) (v:=?v21_18_19) rfl (by kernel_rfl) (by kernel_rfl) (by kernel_rfl) (fun _ _ _ h=>h) (Or.inl ⟨by rfl,?hy21_18_19⟩) ?_;case hy21_18_19=>(intro w;go_simp;first | with_reducible rfl | rw[if_pos (by omega)];try with_reducible rfl)
          try simp only[Act.put,List.setIfInBounds_toArray,List.set_cons_zero,List.set_cons_succ]
          refine wpAny_ready (rs:=[19]) (by kernel_rfl) (by simp) ?_;refine AllReady.cons rfl (fun K hK=> ?_) AllReady.nil;go_simp;refine hK _ _ ?_;clear hK K;refine wpAny_done (by kernel_rfl) ?_ _;go_wp2_with fail
          go_roundw
          case rel=>exact⟨i+1,by omega,by go_num,HST.out.block rfl,⟨hbs.os,hbs.tape,hbs.output,hbs.size,hbs.block⟩⟩
          case measure=>simp[intOf];omega
         refine AllReady.cons rfl (fun K hK=> ?_) ?_
         ·go_simp
          refine hK _ _ ?_;clear hK K;try simp only[Act.put,List.setIfInBounds_toArray,List.set_cons_zero,List.set_cons_succ]
          refine wpAny_take (i:=13) (v:=?v21_13_21) rfl (by kernel_rfl) (by kernel_rfl) (by kernel_rfl) (fun _ _ _ h=>h) (Or.inl ⟨by rfl,?hy21_13_21⟩) ?_;case hy21_13_21=>(intro w;go_simp;try with_reducible rfl)
          try simp only[Act.put,List.setIfInBounds_toArray,List.set_cons_zero,List.set_cons_succ]
          refine wpAny_ready (rs:=[6]) (by kernel_rfl) (by simp) ?_;refine AllReady.cons rfl (fun K hK=> ?_) AllReady.nil;go_simp;refine hK _ _ ?_;clear hK K;try simp only[Act.put,List.setIfInBounds_toArray,List.set_cons_zero,List.set_cons_succ]
          refine wpAny_take (i:=7) (v:=?v21_7_23) rfl (by kernel_rfl) (by kernel_rfl) (by kernel_rfl) (fun _ _ _ h=>h) (Or.inl ⟨by rfl,?hy21_7_23⟩) ?_;case hy21_7_23=>(intro w;go_simp;try with_reducible rfl)
          try simp only[Act.put,List.setIfInBounds_toArray,List.set_cons_zero,List.set_cons_succ]
          refine wpAny_take (i:=8) (v:=?v21_8_24) rfl (by kernel_rfl) (by kernel_rfl) (by kernel_rfl) (fun _ _ _ h=>h) (Or.inl ⟨by rfl,?hy21_8_24⟩) ?_;case hy21_8_24=>(intro w;go_simp;try with_reducible rfl)
          try simp only[Act.put,List.setIfInBounds_toArray,List.set_cons_zero,List.set_cons_succ]
          refine wpAny_take (i:=14) (v:=?v21_14_25) rfl (by kernel_rfl) (by kernel_rfl) (by kernel_rfl) (fun _ _ _ h=>h) (Or.inl ⟨by rfl,?hy21_14_25⟩) ?_;case hy21_14_25=>(intro w;go_simp;try with_reducible rfl)
          try simp only[Act.put,List.setIfInBounds_toArray,List.set_cons_zero,List.set_cons_succ]
          refine wpAny_take (i:=16) (v:=?v21_16_26) rfl (by kernel_rfl) (by kernel_rfl) (by kernel_rfl) (fun _ _ _ h=>h) (Or.inl ⟨by rfl,?hy21_16_26⟩) ?_;case hy21_16_26=>(intro w;go_simp;try with_reducible rfl)
          try simp only[Act.put,List.setIfInBounds_toArray,List.set_cons_zero,List.set_cons_succ]
          refine wpAny_take (i:=17) (v:=?v21_17_27) rfl (by kernel_rfl) (by kernel_rfl) (by kernel_rfl) (fun _ _ _ h=>h) (Or.inl ⟨by rfl,?hy21_17_27⟩) ?_;case hy21_17_27=>(intro w;go_simp;try with_reducible rfl)
          try simp only[Act.put,List.setIfInBounds_toArray,List.set_cons_zero,List.set_cons_succ]
          refine wpAny_take (i:=18) (v:=?v21_18_28) rfl (by kernel_rfl) (by kernel_rfl) (by kernel_rfl) (fun _ _ _ h=>h) (Or.inl ⟨by rfl,?hy21_18_28⟩) ?_;case hy21_18_28=>(intro w;go_simp;first | with_reducible rfl | rw[if_pos (by omega)];try with_reducible rfl)
          try simp only[Act.put,List.setIfInBounds_toArray,List.set_cons_zero,List.set_cons_succ]
          refine wpAny_ready (rs:=[19]) (by kernel_rfl) (by simp) ?_;refine AllReady.cons rfl (fun K hK=> ?_) AllReady.nil;go_simp;refine hK _ _ ?_;clear hK K;refine wpAny_done (by kernel_rfl) ?_ _;go_wp2_with fail
          go_roundw
          case rel=>exact⟨i+1,by omega,by go_num,HST.out.block rfl,⟨hbs.os,hbs.tape,hbs.output,hbs.size,hbs.block⟩⟩
          case measure=>simp[intOf];omega
         exact AllReady.nil
        ·obtain rfl:i=nl n:=by omega
         have e1:=Nat.mod_eq_of_lt hxlt;rw[e1]at hox;clear e1 hxlt;have ho5:=ho3'.mono hbx h34;have hr5:=hr4.step hbx (Nat.lt_trans hlt3 h34);have hlx:=hox.lt;go_wp2_with fail
         refine(fP _ (nl m - nl n+1) _ (m / n) _ (by omega) (Nat.le_refl _) ho5.rw').mono ?_;rintro e w3 ⟨rfl,hb3⟩;have hr6:=hr5.after hb3;have hq3:=bj.of_own (base:=w.heap.size+1+1+1+1) ho5 hb3 hlt3;have hox3:=hox.mono hb3 hlx;go_wp2_with fail
         refine(fP _ (nl n) _ (m % n) _ (by omega) (Nat.le_refl _) hox3.rw').mono ?_;rintro e w4 ⟨rfl,hb4⟩;have hr7:=hr6.after hb4;have hq4:=hq3.mono hb4;have hv4:=bj.of_own (base:=w.heap.size+1+1+1+1) hox3 hb4 (Nat.lt_trans hlt3 h34);obtain⟨q1,q2,q3,q4⟩:=And.intro hr7.cell1 (And.intro hr7.cell2 (And.intro hr7.frozen1 hr7.frozen2));go_wp2;exact hr7.ret hq4 hv4 rfl rfl rfl rfl
     | succ k=>
      have hC:=remAt_lt (U:=m*2^s) (k:=k) hV0 hVlt;have hW:dI (m*2^s) (n*2^s) (k+1) / 4294967296^k<n*2^s*4294967296:=by rw[lZ];exact win_lt _ _ _ hV0
      have HK:=knuth hn1 hVlt hVtop hC hW;have HQ:=quo_step (m*2^s) (n*2^s) k hV0;have HR:=vL (m*2^s) (n*2^s) k hV0;generalize hCC:dI (m*2^s) (n*2^s) (k+1)=C at *;generalize hVV:n*2^s=V at *;have u0:=hu.cell (p:=k+nl n) (by omega);have u1:=hu.cell (p:=k+nl n - 1) (by omega);have u2:=hu.cell (p:=k+nl n - 2) (by omega);have v1:=hd (nl n - 1) (by omega);have v2:=hd (nl n - 2) (by omega);simp only[Nat.zero_add]at v1 v2;have d0:=dD C (k+nl n);have d1:=dD C (k+nl n - 1);have d2:=dD C (k+nl n - 2);have d3:=dD V (nl n - 1);have d4:=dD V (nl n - 2);have e:(((k+1:Nat):Int) - 1)=(k:Int):=by omega
      have e3:((k:Int)+(nl n:Int) - 1)=((k+nl n - 1:Nat):Int):=by omega
      have e4:((k:Int)+(nl n:Int) - 2)=((k+nl n - 2:Nat):Int):=by omega
      have e5:((nl n:Int) - 2)=((nl n - 2:Nat):Int):=by omega
      simp only[e];clear e;have x1:IntKind.i64.wrap ((k:Int)+(nl n:Int))=(k:Int)+(nl n:Int):=by rw[IntKind.wrap_i64];omega
      have y1:((k:Int)+(nl n:Int)).toNat=k+nl n:=by omega
      have x2:IntKind.i64.wrap ((k+nl n - 1:Nat):Int)=((k+nl n - 1:Nat):Int):=by rw[IntKind.wrap_i64];omega
      have x3:IntKind.i64.wrap ((k+nl n - 2:Nat):Int)=((k+nl n - 2:Nat):Int):=by rw[IntKind.wrap_i64];omega
      have x4:IntKind.i64.wrap ((nl n - 1:Nat):Int)=((nl n - 1:Nat):Int):=by rw[IntKind.wrap_i64];omega
      have x5:IntKind.i64.wrap ((nl n - 2:Nat):Int)=((nl n - 2:Nat):Int):=by rw[IntKind.wrap_i64];omega
      have HKt:=HK.1;have HK2:=Lib.hid HK.2;have HQ2:=Lib.hid HQ;have HR2:=Lib.hid HR;have HC2:=Lib.hid hC;clear HK HQ HR hC hW hVV hCC;go_upto_region 16 with(fail)
      refine wp_region_any (by kernel_rfl) ?_
      change wpAny _ _ _ _ _ _ _ (World.drew _)
      refine wpAny_take (i:=0) (v:=?v16_0_1) rfl (by kernel_rfl) (by kernel_rfl) (by kernel_rfl) (fun _ _ _ h=>h) (Or.inl ⟨by rfl,?hy16_0_1⟩) ?_;case hy16_0_1=>(intro w;go_simp;try with_reducible rfl)
      try simp only[Act.put,List.setIfInBounds_toArray,List.set_cons_zero,List.set_cons_succ]
      refine wpAny_take (i:=1) (v:=?v16_1_2) rfl (by kernel_rfl) (by kernel_rfl) (by kernel_rfl) (fun _ _ _ h=>h) (Or.inl ⟨by rfl,?hy16_1_2⟩) ?_;case hy16_1_2=>(intro w;go_simp;try with_reducible rfl)
      try simp only[Act.put,List.setIfInBounds_toArray,List.set_cons_zero,List.set_cons_succ]
      refine wpAny_take (i:=2) (v:=?v16_2_3) rfl (by kernel_rfl) (by kernel_rfl) (by kernel_rfl) (fun _ _ _ h=>h) (Or.inl ⟨by rfl,?hy16_2_3⟩) ?_;case hy16_2_3=>(intro w;go_simp;try with_reducible rfl)
      try simp only[Act.put,List.setIfInBounds_toArray,List.set_cons_zero,List.set_cons_succ]
      refine wpAny_take (i:=3) (v:=?v16_3_4) rfl (by kernel_rfl) (by kernel_rfl) (by kernel_rfl) (fun _ _ _ h=>h) (Or.inl ⟨by rfl,?hy16_3_4⟩) ?_;case hy16_3_4=>(intro w;go_simp;try with_reducible rfl)
      try simp only[Act.put,List.setIfInBounds_toArray,List.set_cons_zero,List.set_cons_succ]
      refine wpAny_take (i:=4) (v:=?v16_4_5) rfl (by kernel_rfl) (by kernel_rfl) (by kernel_rfl) (fun _ _ _ h=>h) (Or.inl ⟨by rfl,?hy16_4_5⟩) ?_;case hy16_4_5=>(intro w;go_simp;try with_reducible rfl)
      try simp only[Act.put,List.setIfInBounds_toArray,List.set_cons_zero,List.set_cons_succ]
      refine wpAny_take (i:=5) (v:=?v16_5_6) rfl (by kernel_rfl) (by kernel_rfl) (by kernel_rfl) (fun _ _ _ h=>h) (Or.inl ⟨by rfl,?hy16_5_6⟩) ?_;case hy16_5_6=>(intro w;go_simp;try with_reducible rfl)
      try simp only[Act.put,List.setIfInBounds_toArray,List.set_cons_zero,List.set_cons_succ]
      refine wpAny_take (i:=6) (v:=?v16_6_7) rfl (by kernel_rfl) (by kernel_rfl) (by kernel_rfl) (fun _ _ _ h=>h) (Or.inl ⟨by rfl,?hy16_6_7⟩) ?_;case hy16_6_7=>(intro w;go_simp;try with_reducible rfl)
      try simp only[Act.put,List.setIfInBounds_toArray,List.set_cons_zero,List.set_cons_succ]
      refine wpAny_take (i:=7) (v:=?v16_7_8) rfl (by kernel_rfl) (by kernel_rfl) (by kernel_rfl) (fun _ _ _ h=>h) (Or.inl ⟨by rfl,?hy16_7_8⟩) ?_;case hy16_7_8=>(intro w;go_simp;try with_reducible rfl)
      try simp only[Act.put,List.setIfInBounds_toArray,List.set_cons_zero,List.set_cons_succ]
      refine wpAny_take (i:=8) (v:=?v16_8_9) rfl (by kernel_rfl) (by kernel_rfl) (by kernel_rfl) (fun _ _ _ h=>h) (Or.inl ⟨by rfl,?hy16_8_9⟩) ?_;case hy16_8_9=>(intro w;go_simp;try with_reducible rfl)
      try simp only[Act.put,List.setIfInBounds_toArray,List.set_cons_zero,List.set_cons_succ]
      refine wpAny_take (i:=9) (v:=?v16_9_10) rfl (by kernel_rfl) (by kernel_rfl) (by kernel_rfl) (fun _ _ _ h=>h) (Or.inl ⟨by rfl,?hy16_9_10⟩) ?_;case hy16_9_10=>(intro w;go_simp;first | with_reducible rfl | rw[if_pos (by omega)];try with_reducible rfl)
      try simp only[Act.put,List.setIfInBounds_toArray,List.set_cons_zero,List.set_cons_succ]
      refine wpAny_take (i:=11) (v:=?v16_11_11) rfl (by kernel_rfl) (by kernel_rfl) (by kernel_rfl) (fun _ _ _ h=>h) (Or.inl ⟨by rfl,?hy16_11_11⟩) ?_;case hy16_11_11=>(intro w;go_simp;try with_reducible rfl)
      try simp only[Act.put,List.setIfInBounds_toArray,List.set_cons_zero,List.set_cons_succ]
      refine wpAny_take (i:=12) (v:=?v16_12_12) rfl (by kernel_rfl) (by kernel_rfl) (by kernel_rfl) (fun _ _ _ h=>h) (Or.inl ⟨by rfl,?hy16_12_12⟩) ?_;case hy16_12_12=>(intro w;go_simp;try with_reducible rfl)
      try simp only[Act.put,List.setIfInBounds_toArray,List.set_cons_zero,List.set_cons_succ]
      refine wpAny_take (i:=13) (v:=?v16_13_13) rfl (by kernel_rfl) (by kernel_rfl) (by kernel_rfl) (fun _ _ _ h=>h) (Or.inl ⟨by rfl,?hy16_13_13⟩) ?_;case hy16_13_13=>(intro w;go_simp;try with_reducible rfl)
      try simp only[Act.put,List.setIfInBounds_toArray,List.set_cons_zero,List.set_cons_succ]
      refine wpAny_take (i:=14) (v:=?v16_14_14) rfl (by kernel_rfl) (by kernel_rfl) (by kernel_rfl) (fun _ _ _ h=>h) (Or.inl ⟨by rfl,?hy16_14_14⟩) ?_;case hy16_14_14=>(intro w;go_simp;try with_reducible rfl)
      try simp only[Act.put,List.setIfInBounds_toArray,List.set_cons_zero,List.set_cons_succ]
      refine wpAny_take (i:=15) (v:=?v16_15_15) rfl (by kernel_rfl) (by kernel_rfl) (by kernel_rfl) (fun _ _ _ h=>h) (Or.inl ⟨by rfl,?hy16_15_15⟩) ?_;case hy16_15_15=>(intro w;go_simp;try with_reducible rfl)
      try simp only[Act.put,List.setIfInBounds_toArray,List.set_cons_zero,List.set_cons_succ]
      refine wpAny_take (i:=16) (v:=?v16_16_16) rfl (by kernel_rfl) (by kernel_rfl) (by kernel_rfl) (fun _ _ _ h=>h) (Or.inl ⟨by rfl,?hy16_16_16⟩) ?_;case hy16_16_16=>(intro w;go_simp;first | with_reducible rfl | rw[if_pos (by omega)];try with_reducible rfl)
      try simp only[Act.put,List.setIfInBounds_toArray,List.set_cons_zero,List.set_cons_succ]
      refine wpAny_take (i:=18) (v:=?v16_18_17) rfl (by kernel_rfl) (by kernel_rfl) (by kernel_rfl) (fun _ _ _ h=>h) (Or.inl ⟨by rfl,?hy16_18_17⟩) ?_;case hy16_18_17=>(intro w;go_simp;try with_reducible rfl)
      try simp only[Act.put,List.setIfInBounds_toArray,List.set_cons_zero,List.set_cons_succ]
      refine wpAny_take (i:=19) (v:=?v16_19_18) rfl (by kernel_rfl) (by kernel_rfl) (by kernel_rfl) (fun _ _ _ h=>h) (Or.inl ⟨by rfl,?hy16_19_18⟩) ?_;case hy16_19_18=>(intro w;go_simp;try with_reducible rfl)
      try simp only[Act.put,List.setIfInBounds_toArray,List.set_cons_zero,List.set_cons_succ]
      refine wpAny_take (i:=20) (v:=?v16_20_19) rfl (by kernel_rfl) (by kernel_rfl) (by kernel_rfl) (fun _ _ _ h=>h) (Or.inl ⟨by rfl,?hy16_20_19⟩) ?_;case hy16_20_19=>(intro w;go_simp;try with_reducible rfl)
      try simp only[Act.put,List.setIfInBounds_toArray,List.set_cons_zero,List.set_cons_succ]
      refine wpAny_take (i:=21) (v:=?v16_21_20) rfl (by kernel_rfl) (by kernel_rfl) (by kernel_rfl) (fun _ _ _ h=>h) (Or.inl ⟨by rfl,?hy16_21_20⟩) ?_;case hy16_21_20=>(intro w;go_simp;try with_reducible rfl)
      try simp only[Act.put,List.setIfInBounds_toArray,List.set_cons_zero,List.set_cons_succ]
      refine wpAny_take (i:=22) (v:=?v16_22_21) rfl (by kernel_rfl) (by kernel_rfl) (by kernel_rfl) (fun _ _ _ h=>h) (Or.inl ⟨by rfl,?hy16_22_21⟩) ?_;case hy16_22_21=>(intro w;go_simp;try with_reducible rfl)
      try simp only[Act.put,List.setIfInBounds_toArray,List.set_cons_zero,List.set_cons_succ]
      refine wpAny_take (i:=23) (v:=?v16_23_22) rfl (by kernel_rfl) (by kernel_rfl) (by kernel_rfl) (fun _ _ _ h=>h) (Or.inl ⟨by rfl,?hy16_23_22⟩) ?_;case hy16_23_22=>(intro w;go_simp;first | with_reducible rfl | rw[if_pos (by omega)];try with_reducible rfl)
      try simp only[Act.put,List.setIfInBounds_toArray,List.set_cons_zero,List.set_cons_succ]
      refine wpAny_take (i:=25) (v:=?v16_25_23) rfl (by kernel_rfl) (by kernel_rfl) (by kernel_rfl) (fun _ _ _ h=>h) (Or.inl ⟨by rfl,?hy16_25_23⟩) ?_;case hy16_25_23=>(intro w;go_simp;try with_reducible rfl)
      try simp only[Act.put,List.setIfInBounds_toArray,List.set_cons_zero,List.set_cons_succ]
      refine wpAny_take (i:=26) (v:=?v16_26_24) rfl (by kernel_rfl) (by kernel_rfl) (by kernel_rfl) (fun _ _ _ h=>h) (Or.inl ⟨by rfl,?hy16_26_24⟩) ?_;case hy16_26_24=>(intro w;go_simp;try with_reducible rfl)
      try simp only[Act.put,List.setIfInBounds_toArray,List.set_cons_zero,List.set_cons_succ]
      refine wpAny_take (i:=27) (v:=?v16_27_25) rfl (by kernel_rfl) (by kernel_rfl) (by kernel_rfl) (fun _ _ _ h=>h) (Or.inl ⟨by rfl,?hy16_27_25⟩) ?_;case hy16_27_25=>(intro w;go_simp;try with_reducible rfl)
      try simp only[Act.put,List.setIfInBounds_toArray,List.set_cons_zero,List.set_cons_succ]
      refine wpAny_take (i:=28) (v:=?v16_28_26) rfl (by kernel_rfl) (by kernel_rfl) (by kernel_rfl) (fun _ _ _ h=>h) (Or.inl ⟨by rfl,?hy16_28_26⟩) ?_;case hy16_28_26=>(intro w;go_simp;first | with_reducible rfl | rw[if_pos (by omega)];try with_reducible rfl)
      try simp only[Act.put,List.setIfInBounds_toArray,List.set_cons_zero,List.set_cons_succ]
      refine wpAny_take (i:=30) (v:=?v16_30_27) rfl (by kernel_rfl) (by kernel_rfl) (by kernel_rfl) (fun _ _ _ h=>h) (Or.inl ⟨by rfl,?hy16_30_27⟩) ?_;case hy16_30_27=>(intro w;go_simp;try with_reducible rfl)
      try simp only[Act.put,List.setIfInBounds_toArray,List.set_cons_zero,List.set_cons_succ]
      refine wpAny_take (i:=31) (v:=?v16_31_28) rfl (by kernel_rfl) (by kernel_rfl) (by kernel_rfl) (fun _ _ _ h=>h) (Or.inl ⟨by rfl,?hy16_31_28⟩) ?_;case hy16_31_28=>(intro w;go_simp;try with_reducible rfl)
      try simp only[Act.put,List.setIfInBounds_toArray,List.set_cons_zero,List.set_cons_succ]
      refine wpAny_take (i:=32) (v:=?v16_32_29) rfl (by kernel_rfl) (by kernel_rfl) (by kernel_rfl) (fun _ _ _ h=>h) (Or.inl ⟨by rfl,?hy16_32_29⟩) ?_;case hy16_32_29=>(intro w;go_simp;try with_reducible rfl)
      try simp only[Act.put,List.setIfInBounds_toArray,List.set_cons_zero,List.set_cons_succ]
      refine wpAny_take (i:=33) (v:=?v16_33_30) rfl (by kernel_rfl) (by kernel_rfl) (by kernel_rfl) (fun _ _ _ h=>h) (Or.inl ⟨by rfl,?hy16_33_30⟩) ?_;case hy16_33_30=>(intro w;go_simp;first | with_reducible rfl | rw[if_pos (by omega)];try with_reducible rfl)
      try simp only[Act.put,List.setIfInBounds_toArray,List.set_cons_zero,List.set_cons_succ]
      refine cH (i:=10) (t:=35) (v:=?v16_10_31) rfl (by decide) rfl rfl (by kernel_rfl) (by kernel_rfl) (fun _ _ _ h=>h) ⟨by rfl,?hy16_10_31⟩ ?_;case hy16_10_31=>(go_simp;try with_reducible rfl)
      try simp only[Act.put,List.setIfInBounds_toArray,List.set_cons_zero,List.set_cons_succ]
      refine cH (i:=17) (t:=35) (v:=?v16_17_32) rfl (by decide) rfl rfl (by kernel_rfl) (by kernel_rfl) (fun _ _ _ h=>h) ⟨by rfl,?hy16_17_32⟩ ?_;case hy16_17_32=>(go_simp;try with_reducible rfl)
      try simp only[Act.put,List.setIfInBounds_toArray,List.set_cons_zero,List.set_cons_succ]
      refine cH (i:=24) (t:=35) (v:=?v16_24_33) rfl (by decide) rfl rfl (by kernel_rfl) (by kernel_rfl) (fun _ _ _ h=>h) ⟨by rfl,?hy16_24_33⟩ ?_;case hy16_24_33=>(go_simp;try with_reducible rfl)
      try simp only[Act.put,List.setIfInBounds_toArray,List.set_cons_zero,List.set_cons_succ]
      refine cH (i:=29) (t:=35) (v:=?v16_29_34) rfl (by decide) rfl rfl (by kernel_rfl) (by kernel_rfl) (fun _ _ _ h=>h) ⟨by rfl,?hy16_29_34⟩ ?_;case hy16_29_34=>(go_simp;try with_reducible rfl)
      try simp only[Act.put,List.setIfInBounds_toArray,List.set_cons_zero,List.set_cons_succ]
      refine wpAny_ready (rs:=[34]) (by kernel_rfl) (by simp) ?_;refine AllReady.cons rfl (fun K hK=> ?_) AllReady.nil;go_simp;refine hK _ _ ?_;clear hK K;try simp only[Act.put,List.setIfInBounds_toArray,List.set_cons_zero,List.set_cons_succ]
      refine wpAny_ready (rs:=[35]) (by kernel_rfl) (by simp) ?_;refine AllReady.cons rfl (fun K hK=> ?_) AllReady.nil;go_simp;refine(c_guess _ _ _ _ _ _ (by omega) (by omega) (by omega) (by omega) (by omega) (by omega)).mono ?_;rintro e w5 ⟨rfl,q5,rfl⟩;refine hK _ _ ?_;clear hK K;try simp only[Act.put,List.setIfInBounds_toArray,List.set_cons_zero,List.set_cons_succ]
      refine wpAny_ready (rs:=[36]) (by kernel_rfl) (by simp) ?_;refine AllReady.cons rfl (fun K hK=> ?_) AllReady.nil;go_simp;refine(c_reduce g1 (nl m+1) _ g2 _ (nl n) k C V (fB 4294967296 ((D C (k+nl n)*4294967296+D C (k+nl n - 1))*4294967296+D C (k+nl n - 2)) (D V (nl n - 1)*4294967296+D V (nl n - 2))) (wr.drewN (1+q5)) (hu.block rfl) hd hVlt hne21 (by omega) (by omega) (Nat.lt_of_le_of_lt (Nat.min_le_left _ _) (by decide)) hV0 HC2.out HK2.out.1 HK2.out.2).mono ?_;rintro e w6 ⟨rfl,hu6,hgb6⟩;rw[HR2.out]at hu6;have hb6:Below g1 wr w6:=(bg (Below.refl g1 wr) (1+q5)).trans (en hgb6 g1 (Nat.le_of_lt hu.lt) (fun k hk=>by cases hk;exact Nat.le_refl _));have hr6:=hrr.step hb6 hlt1;have ho6:aU w6 g3 _ _:=aU.kept (show aU (wr.drewN (1+q5)) g3 _ _ from ho.block rfl) hgb6 (by simpa using h31);have hd6:Dig w6 g2 0 (nl n) V:=Dig.kept (show Dig (wr.drewN (1+q5)) g2 0 (nl n) V from hd) hgb6 (by simpa using hne21);clear ho hu hd hrr hgb6 hb6 HK2 HC2 HR2;refine hK _ _ ?_;clear hK K;try simp only[Act.put,List.setIfInBounds_toArray,List.set_cons_zero,List.set_cons_succ]
      have s0:=ho6.cell (p:=k) (by omega);have f0:=ho6.frozen k;have hlt6:=HQ2.out.2;have hst6:=ho6.store (p:=k) (by omega) hlt6;rw[HQ2.out.1]at hst6;have hu7:=hu6.setOther ⟨g3,k,none⟩ (.int .u32 ((C / 4294967296^k / V:Nat):Int)) (by exact h31);have hd7:=hd6.setOther ⟨g3,k,none⟩ (.int .u32 ((C / 4294967296^k / V:Nat):Int)) h32;have hr7:=hr6.step ((Below.refl g3 w6).setCell (p:=⟨g3,k,none⟩) (Nat.le_refl _) (.int .u32 ((C / 4294967296^k / V:Nat):Int))) hlt3;clear ho6 hu6 hd6 hr6 HQ2;have HLT:=Lib.hid hlt6;clear hlt6;generalize C / 4294967296^k / V=Z at *;refine wpAny_take (i:=37) (v:=?v16_37_38) rfl (by kernel_rfl) (by kernel_rfl) (by kernel_rfl) (fun _ _ _ h=>h) (Or.inl ⟨by rfl,?hy16_37_38⟩) ?_;case hy16_37_38=>(intro w;go_simp;first | with_reducible rfl | rw[if_pos (by omega)];try with_reducible rfl)
      try simp only[Act.put,List.setIfInBounds_toArray,List.set_cons_zero,List.set_cons_succ]
      refine wpAny_ready (rs:=[38]) (by kernel_rfl) (by simp) ?_;refine AllReady.cons rfl (fun K hK=> ?_) AllReady.nil;go_simp;refine hK _ _ ?_;clear hK K;refine wpAny_done (by kernel_rfl) ?_ _;go_wp2_with fail
      go_roundw
      case rel=>exact⟨k,by omega,by go_num,hst6,hu7,hd7,hr7⟩
      case measure=>simp[intOf]
theorem gh (va vb:Value) (m n:Nat) (w:World) (ha:IsN w va m) (hb:IsN w vb n) (hm:nl m≤1000000000000) (hn:nl n≤1000000000000) (h0:n≠0):
  Calls Tryz.prog 200 #[va,vb] w fun e w'=>io w (m / n) (m % n) 0 e w':=by
 by_cases hlt:m<n
 ·have:=qn va vb m n w ha hb hm hn hlt;rwa [Nat.div_eq_of_lt hlt,Nat.mod_eq_of_lt hlt]
 ·by_cases h1:nl n=1
  ·exact rX va vb m n w ha hb hm h1 (by omega)
  ·have:=fO h0;exact rZ va vb m n w ha hb hm hn (by omega) (by omega)
structure Two (w wx:World) (rc g1 g2 x y:Nat):Prop where
 below:Below w.heap.size w wx
 res:bd wx rc none 0 0
 rbase:w.heap.size≤rc
 ne1:rc≠g1
 ne2:rc≠g2
 ne:g1≠g2
 base1:w.heap.size≤g1
 base2:w.heap.size≤g2
 var1:kI w.heap.size wx g1 x
 var2:kI w.heap.size wx g2 y
theorem xP {w w1:World} {rc g5 g6 M N L5 c5 L6 c6 cx cy:Nat} {a5 a6 x y:Option Addr} (hb:Below w.heap.size w w1) (kr:bd w1 rc none 0 0) (v5:bd w1 g5 a5 L5 c5) (v6:bd w1 g6 a6 L6 c6)
  (h1:w.heap.size≤rc) (h2:rc≠g5) (h3:rc≠g6) (h4:g5≠g6) (h5:w.heap.size≤g5) (h6:w.heap.size≤g6)
  (hx:bj w.heap.size w1 (.agg #[.slice x (nl M) cx]) M) (hy:bj w.heap.size w1 (.agg #[.slice y (nl N) cy]) N):
  Two w ((w1.setCell ⟨g5,0,none⟩ (.slice x (nl M) cx)).setCell ⟨g6,0,none⟩ (.slice y (nl N) cy)) rc g5 g6 M N:=by
 have v6':=v6.setOther ⟨g5,0,none⟩ (.slice x (nl M) cx) h4;exact⟨(hb.setCell (p:=⟨g5,0,none⟩) h5 _).setCell (p:=⟨g6,0,none⟩) h6 _,(kr.setOther _ _ (fun e=>h2 e.symm)).setOther _ _ (fun e=>h3 e.symm),h1,h2,h3,h4,h5,h6,
  ⟨x,cx,v5.set.setOther _ _ (fun e=>h4 e.symm),(hx.setVar v5).setVar v6'⟩,⟨y,cy,v6'.set,(hy.setVar v5).setVar v6'⟩⟩
def qD (base:Nat) (a b:Option Addr) (m ca n cb:Nat):Nat→Value→World→Prop
 | 0,v,_=>∃so,v= .slice so 0 0
 | 5,v,_=>∃so,v= .slice so 0 0
 | 2,v,_=>v= .slice a (nl m) ca
 | 7,v,_=>v= .slice b (nl n) cb
 | 3,v,w=>∃x c,v= .slice x (nl m) c∧nl m≤c∧gX w base x (nl m) m
 | 8,v,w=>∃x c,v= .slice x (nl n) c∧nl n≤c∧gX w base x (nl n) n
 | 4,v,w=>bj base w v m
 | 9,v,w=>bj base w v n
 | 10,v,w=>∃g,v= .pointer (some ⟨g,0,none⟩)∧base≤g∧bd w g none 0 0
 | 11,v,w=>∃g,v= .pointer (some ⟨g,0,none⟩)∧base≤g∧bd w g none 0 0
 | _,_,_=>True
theorem vM (base:Nat) (a b:Option Addr) (m ca n cb:Nat) (i:Nat) (v:Value) (w w':World) (h:qD base a b m ca n cb i v w) (hb:Below w.heap.size w w'):qD base a b m ca n cb i v w':=by
 unfold qD at h⊢;split at h
 all_goals first
  | exact h
  | (obtain⟨x,c,rfl,hc,hr⟩:=h;exact⟨x,c,rfl,hc,hr.mono hb⟩)
  | exact bj.mono h hb
  | (obtain⟨g,rfl,hg,hv⟩:=h;exact⟨g,rfl,hg,hv.mono hb hv.lt⟩)
theorem start3 (w:World) (a b:Option Addr) (L ca M cb:Nat):
  Below w.heap.size w (((w.alloc (.cells #[.slice a L ca] 31)).alloc (.cells #[.slice b M cb] 31)).alloc (.cells #[.slice none 0 0] 31)).drew∧
  bd (((w.alloc (.cells #[.slice a L ca] 31)).alloc (.cells #[.slice b M cb] 31)).alloc (.cells #[.slice none 0 0] 31)).drew w.heap.size a L ca∧
  bd (((w.alloc (.cells #[.slice a L ca] 31)).alloc (.cells #[.slice b M cb] 31)).alloc (.cells #[.slice none 0 0] 31)).drew (w.heap.size+1) b M cb∧
  bd (((w.alloc (.cells #[.slice a L ca] 31)).alloc (.cells #[.slice b M cb] 31)).alloc (.cells #[.slice none 0 0] 31)).drew (w.heap.size+1+1) none 0 0:=by
 have b1:Below (w.alloc (.cells #[.slice a L ca] 31)).heap.size (w.alloc (.cells #[.slice a L ca] 31)) ((w.alloc (.cells #[.slice a L ca] 31)).alloc (.cells #[.slice b M cb] 31)):=(Below.refl _ _).alloc (Nat.le_refl _) _;have b2:Below ((w.alloc (.cells #[.slice a L ca] 31)).alloc (.cells #[.slice b M cb] 31)).heap.size ((w.alloc (.cells #[.slice a L ca] 31)).alloc (.cells #[.slice b M cb] 31))
  (((w.alloc (.cells #[.slice a L ca] 31)).alloc (.cells #[.slice b M cb] 31)).alloc (.cells #[.slice none 0 0] 31)).drew:=bg ((Below.refl _ _).alloc (Nat.le_refl _) _) 1
 refine⟨bg ((((Below.refl _ _).alloc (Nat.le_refl _) _).alloc (by simp) _).alloc (by simp;omega) _) 1,?_,?_,?_⟩
 ·exact((bd.made w a L ca).mono b1 (by simp)).mono b2 (by simp;omega)
 ·have h:=(bd.made (w.alloc (.cells #[.slice a L ca] 31)) b M cb).mono b2 (by simp);rw[World.size_alloc]at h;exact h
 ·have h:=bd.made ((w.alloc (.cells #[.slice a L ca] 31)).alloc (.cells #[.slice b M cb] 31)) none 0 0;rw[World.size_alloc,World.size_alloc]at h;exact h
set_option maxRecDepth 100000 in
set_option maxHeartbeats 4000000 in
theorem qo (va vb:Value) (m n:Nat) (w:World) (ha:IsN w va m) (hb:IsN w vb n) (hm:nl m≤1000000000000) (hn:nl n≤1000000000000):
  Calls Tryz.prog 199 #[va,vb] w fun e w'=>gF w (Nat.gcd m n) e w':=by
 obtain⟨a,ca,rfl,hca,ra⟩:=ha;obtain⟨b,cb,rfl,hcb,rb⟩:=hb;go_enter Tryz.func199,Tryz.ntmps199
 go_upto_region 1 with(fail)
 go_cut [5,6] (fun s5 s6 wx=>∃g5 g6,s5= .pointer (some ⟨g5,0,none⟩)∧s6= .pointer (some ⟨g6,0,none⟩)∧Two w wx (w.heap.size+1+1) g5 g6 m n)
 case first=>
  obtain⟨hw0,k2,k3,k4⟩:=start3 w a b (nl m) ca (nl n) cb;refine wp_region_any (by kernel_rfl) ?_
  change wpAny _ _ _ _ _ _ _ (World.drew _)
  generalize World.drew _=w0 at *;refine mS (i:=1) (d:=some 11) (v:=?v1_1) rfl rfl (by kernel_rfl) (by kernel_rfl) (by kernel_rfl) (fun _ _ _ h=>h) (Or.inl ⟨by rfl,?hy1_1⟩) ?_;case hy1_1=>(intro w;go_simp;try with_reducible rfl)
  try simp only[Act.put,List.setIfInBounds_toArray,List.set_cons_zero,List.set_cons_succ]
  refine mS (i:=6) (d:=some 16) (v:=?v1_6) rfl rfl (by kernel_rfl) (by kernel_rfl) (by kernel_rfl) (fun _ _ _ h=>h) (Or.inl ⟨by rfl,?hy1_6⟩) ?_;case hy1_6=>(intro w;go_simp;try with_reducible rfl)
  try simp only[Act.put,List.setIfInBounds_toArray,List.set_cons_zero,List.set_cons_succ]
  refine rW (fuel:=2) [(0,10),(2,12),(3,13),(4,14),(5,15),(7,17),(8,18),(9,19),(10,5),(11,6)] 4 (fun i=>i==10 || i==11) (qD w0.heap.size a b m ca n cb) (by kernel_rfl) (by kernel_rfl) (by decide) (fun i _ v w1 w2 h hb=>vM _ _ _ _ _ _ _ i v w1 w2 h hb) ?_ ?_ ?_
  ·intro i _ hal v w1 h;simp only[Bool.or_eq_true,beq_iff_eq]at hal;rcases hal with rfl | rfl<;>(obtain⟨g,rfl,_,hv⟩:=h;exact hv.lt)
  ·intro p hp f w1 hb1 hF K hK;have hb1':=hw0.trans (hb1.mono hw0.size);simp only[List.mem_cons,List.not_mem_nil,or_false]at hp;rcases hp with rfl | rfl | rfl | rfl | rfl | rfl | rfl | rfl | rfl | rfl
   ·refine wpOp_step rfl (fun K' hK'=> ?_)
    replace hK:=fun v w'' h1 h2 h3=>hK' _ _ (hK v w'' h1 h2 h3)
    clear hK';simp only[jw,List.foldl_cons,List.foldl_nil,Act.put,List.setIfInBounds_toArray,List.set_cons_zero,List.set_cons_succ]at hK⊢;go_simp;exact hK _ _ ⟨_,rfl⟩ ((Below.refl _ _).alloc (Nat.le_refl _) _) (by simp)
   ·refine wpOp_step rfl (fun K' hK'=> ?_)
    replace hK:=fun v w'' h1 h2 h3=>hK' _ _ (hK v w'' h1 h2 h3)
    clear hK';simp only[jw,List.foldl_cons,List.foldl_nil,Act.put,List.setIfInBounds_toArray,List.set_cons_zero,List.set_cons_succ]at hK⊢;have c1:=(k2.mono hb1 k2.lt).cell;go_simp;exact hK _ _ rfl (Below.refl _ _) (by simp)
   ·simp only[jw,List.foldl_cons,List.foldl_nil,Act.put,List.setIfInBounds_toArray,List.set_cons_zero,List.set_cons_succ]at hK⊢;obtain⟨so,e0⟩:=hF 0 (by decide) (by decide);have e2:=hF 2 (by decide) (by decide);simp only[qD]at e2;refine gg rfl rfl rfl (.tmp 10) (.tmp 12) rfl w0.heap.size hb1.size so ?_ a (nl m) ca m ?_ (ra.mono hb1') (by omega) ?_
    ·exact e0
    ·exact e2
    ·intro a' c' w' h1 h2 h3;exact hK _ _ ⟨a',c',rfl,h2,h1⟩ h3 (by simp)
   ·refine wpOp_step rfl (fun K' hK'=> ?_)
    replace hK:=fun v w'' h1 h2 h3=>hK' _ _ (hK v w'' h1 h2 h3)
    clear hK';simp only[jw,List.foldl_cons,List.foldl_nil,Act.put,List.setIfInBounds_toArray,List.set_cons_zero,List.set_cons_succ]at hK⊢;obtain⟨x,c,e0,hc,hcp⟩:=hF 3 (by decide) (by decide);go_simp;simp only[e0]at hK;refine(fP x (nl m) c m _ (by omega) hc (hcp.rw' (dO m))).mono ?_;rintro e w2 ⟨rfl,hb2⟩;exact hK _ _ ((hcp.mono hb2).newN (Nat.le_refl _)) hb2 (by simp)
   ·refine wpOp_step rfl (fun K' hK'=> ?_)
    replace hK:=fun v w'' h1 h2 h3=>hK' _ _ (hK v w'' h1 h2 h3)
    clear hK';simp only[jw,List.foldl_cons,List.foldl_nil,Act.put,List.setIfInBounds_toArray,List.set_cons_zero,List.set_cons_succ]at hK⊢;go_simp;exact hK _ _ ⟨_,rfl⟩ ((Below.refl _ _).alloc (Nat.le_refl _) _) (by simp)
   ·refine wpOp_step rfl (fun K' hK'=> ?_)
    replace hK:=fun v w'' h1 h2 h3=>hK' _ _ (hK v w'' h1 h2 h3)
    clear hK';simp only[jw,List.foldl_cons,List.foldl_nil,Act.put,List.setIfInBounds_toArray,List.set_cons_zero,List.set_cons_succ]at hK⊢;have c1:=(k3.mono hb1 k3.lt).cell;go_simp;exact hK _ _ rfl (Below.refl _ _) (by simp)
   ·simp only[jw,List.foldl_cons,List.foldl_nil,Act.put,List.setIfInBounds_toArray,List.set_cons_zero,List.set_cons_succ]at hK⊢;obtain⟨so,e0⟩:=hF 5 (by decide) (by decide);have e2:=hF 7 (by decide) (by decide);simp only[qD]at e2;refine gg rfl rfl rfl (.tmp 15) (.tmp 17) rfl w0.heap.size hb1.size so ?_ b (nl n) cb n ?_ (rb.mono hb1') (by omega) ?_
    ·exact e0
    ·exact e2
    ·intro a' c' w' h1 h2 h3;exact hK _ _ ⟨a',c',rfl,h2,h1⟩ h3 (by simp)
   ·refine wpOp_step rfl (fun K' hK'=> ?_)
    replace hK:=fun v w'' h1 h2 h3=>hK' _ _ (hK v w'' h1 h2 h3)
    clear hK';simp only[jw,List.foldl_cons,List.foldl_nil,Act.put,List.setIfInBounds_toArray,List.set_cons_zero,List.set_cons_succ]at hK⊢;obtain⟨x,c,e0,hc,hcp⟩:=hF 8 (by decide) (by decide);go_simp;simp only[e0]at hK;refine(fP x (nl n) c n _ (by omega) hc (hcp.rw' (dO n))).mono ?_;rintro e w2 ⟨rfl,hb2⟩;exact hK _ _ ((hcp.mono hb2).newN (Nat.le_refl _)) hb2 (by simp)
   ·refine wpOp_step rfl (fun K' hK'=> ?_)
    replace hK:=fun v w'' h1 h2 h3=>hK' _ _ (hK v w'' h1 h2 h3)
    clear hK';simp only[jw,List.foldl_cons,List.foldl_nil,Act.put,List.setIfInBounds_toArray,List.set_cons_zero,List.set_cons_succ]at hK⊢;go_simp;exact hK _ _ ⟨_,rfl,hb1.size,bd.made _ _ _ _⟩ ((Below.refl _ _).alloc (Nat.le_refl _) _) (fun _=>Nat.le_refl _)
   ·refine wpOp_step rfl (fun K' hK'=> ?_)
    replace hK:=fun v w'' h1 h2 h3=>hK' _ _ (hK v w'' h1 h2 h3)
    clear hK';simp only[jw,List.foldl_cons,List.foldl_nil,Act.put,List.setIfInBounds_toArray,List.set_cons_zero,List.set_cons_succ]at hK⊢;go_simp;exact hK _ _ ⟨_,rfl,hb1.size,bd.made _ _ _ _⟩ ((Below.refl _ _).alloc (Nat.le_refl _) _) (fun _=>Nat.le_refl _)
  ·intro f w1 hb1 hF hsep;have hb1':=hw0.trans (hb1.mono hw0.size);obtain⟨g5,e5,hg5,v5⟩:=hF 10 (by decide);obtain⟨g6,e6,hg6,v6⟩:=hF 11 (by decide);have hne:=hsep 10 (by decide) 11 (by decide) rfl rfl (by decide);rw[e5,e6]at hne;have hne':g5≠g6:=hne;clear hne;have hz4:=k4.lt;have hz0:=hw0.size;have h4:bj w.heap.size w1 _ _:=bj.weaken (hF 4 (by decide)) hz0;have h9:bj w.heap.size w1 _ _:=bj.weaken (hF 9 (by decide)) hz0;obtain⟨x,cx,e4,hcx,hxx⟩:=h4;obtain⟨y,cy,e9,hcy,hyy⟩:=h9;have hx:bj w.heap.size w1 (.agg #[.slice x (nl m) cx]) m:=⟨x,cx,rfl,hcx,hxx⟩;have hy:bj w.heap.size w1 (.agg #[.slice y (nl n) cy]) n:=⟨y,cy,rfl,hcy,hyy⟩;have kr:=k4.mono hb1 k4.lt;have hr5:w.heap.size+1+1≠g5:=by omega
   have hr6:w.heap.size+1+1≠g6:=by omega
   have hT:=xP hb1' kr v5 v6 (by omega) hr5 hr6 hne' (by omega) (by omega) hx hy;have c5:=v5.cell;have f5:=v5.frozen;have v6':=v6.setOther ⟨g5,0,none⟩ (.slice x (nl m) cx) hne';have c6:=v6'.cell;have f6:=v6'.frozen;clear hF hsep hxx hyy;simp only[jw,List.foldl_cons,List.foldl_nil,Act.put,List.setIfInBounds_toArray,List.set_cons_zero,List.set_cons_succ,e4,e9,e5,e6];refine wpAny_ready (rs:=[12]) (by kernel_rfl) (by simp) ?_;refine AllReady.cons rfl (fun K hK=> ?_) AllReady.nil;go_simp;refine hK _ _ ?_;clear hK K;refine wpAny_ready (rs:=[13]) (by kernel_rfl) (by simp) ?_;refine AllReady.cons rfl (fun K hK=> ?_) AllReady.nil;go_simp;refine hK _ _ ?_;clear hK K;refine wpAny_done (by kernel_rfl) ?_ _;go_wp2_with fail
   go_meet;case rel=>exact⟨g5,g6,rfl,rfl,hT⟩
 case rest=>
  obtain⟨g5,g6,rfl,rfl,hT⟩:=hcut;clear ra rb;go_wp2_with fail
  go_loopw [] (fun wr=>∃x y:Nat,Nat.gcd x y=Nat.gcd m n∧nl x≤1000000000000∧nl y≤1000000000000∧Two w wr (w.heap.size+1+1) g5 g6 x y)
   (fun wr=>valAt wr g6)
  case atStart=>exact⟨m,n,rfl,hm,hn,hT⟩
  case round=>
   obtain⟨x,y,hxy,hx,hy,hs⟩:=hrel;obtain⟨ax,cx,vx,nx⟩:=hs.var1;obtain⟨ay,cy,vy,ny⟩:=hs.var2;have c5:=vx.cell;have c6:=vy.cell;have cr:=hs.res.cell;have fr:=hs.res.frozen;by_cases hy0:y=0
   ·subst hy0;rw[bv]at c6;rw[Nat.gcd_zero_right]at hxy;have HXY:=Lib.hid hxy;clear hxy;have hfin:bj w.heap.size (wr.setCell ⟨w.heap.size+1+1,0,none⟩ (.slice ax (nl x) cx)) (.agg #[.slice ax (nl x) cx]) (Nat.gcd m n):=by rw[←HXY.out];exact nx.setVar hs.res
    have hcell:=(hs.res.set (a':=ax) (L':=nl x) (c':=cx)).cell;have hbel:=hs.below.setCell (p:=⟨w.heap.size+1+1,0,none⟩) hs.rbase (.slice ax (nl x) cx);go_wp2;exact bodyPost_ret (nJ rfl _ _ (w.heap.size+1+1) _ rfl hcell) rfl ⟨_,rfl,hfin,hbel⟩
   ·have hny:=fO hy0;go_wp2_with fail
    refine(gh _ _ x y _ nx.isN ny.isN hx hy hy0).mono ?_;rintro e w1 ⟨vq,vr,rfl,⟨aq,cq,rfl,hcq,hxq⟩,⟨ar,cr',rfl,hcr,hxr⟩,hb1⟩;have f5:=vx.frozen;have f6:=vy.frozen;go_upto_region 4 with(fail)
    have hb3:Below wr.heap.size wr ((w1.alloc (.cells #[.slice aq (nl (x / y)) cq] 31)).alloc (.cells #[.slice ar (nl (x % y)) cr'] 31)).drew:=
     bg (hb1.trans (((Below.refl w1.heap.size w1).alloc (Nat.le_refl _) _).alloc (by simp) _ |>.mono hb1.size)) 1
    have hb4:Below w1.heap.size w1 ((w1.alloc (.cells #[.slice aq (nl (x / y)) cq] 31)).alloc (.cells #[.slice ar (nl (x % y)) cr'] 31)).drew:=
     bg (((Below.refl w1.heap.size w1).alloc (Nat.le_refl _) _).alloc (by simp) _) 1
    have v8:bd ((w1.alloc (.cells #[.slice aq (nl (x / y)) cq] 31)).alloc (.cells #[.slice ar (nl (x % y)) cr'] 31)).drew (w1.heap.size+1) ar (nl (x % y)) cr':=by
     have h:=bd.made (w1.alloc (.cells #[.slice aq (nl (x / y)) cq] 31)) ar (nl (x % y)) cr';rw[World.size_alloc]at h;exact h
    refine wp_region_any (by kernel_rfl) ?_
    change wpAny _ _ _ _ _ _ _ (World.drew _)
    generalize World.drew _=w3 at *;have nr:bj w.heap.size w3 (.agg #[.slice ar (nl (x % y)) cr']) (x % y):=bj.mono (bj.weaken (base:=wr.heap.size) ⟨ar,cr',rfl,hcr,hxr⟩ hs.below.size) hb4;have ny3:=ny.mono hb3;have vx3:=vx.mono hb3 vx.lt;have vy3:=vy.mono hb3 vy.lt;have kr3:=hs.res.mono hb3 hs.res.lt;have hT':=xP (hs.below.trans (hb3.mono hs.below.size)) kr3 vx3 vy3 hs.rbase hs.ne1 hs.ne2 hs.ne hs.base1 hs.base2 ny3 nr;have hl8:w1.heap.size+1≠g5:=by have:=vx.lt;have:=hb1.size;omega
    have v8':=v8.setOther ⟨g5,0,none⟩ (.slice ay (nl y) cy) (fun e=>hl8 e.symm);have vy3':=vy3.setOther ⟨g5,0,none⟩ (.slice ay (nl y) cy) hs.ne;have hsv:=hs.var2.valAt;have htv:=hT'.var2.valAt;have hmod:=Nat.mod_lt x (Nat.pos_of_ne_zero hy0);have hgc:Nat.gcd y (x % y)=Nat.gcd m n:=by rw[←hxy,Nat.gcd_comm x y,Nat.gcd_rec y x,Nat.gcd_comm]
    have hnr:nl (x % y)≤1000000000000:=Nat.le_trans (dH (Nat.le_of_lt hmod)) hy;clear c5 c6 cr fr f5 f6 hxq hxr;have c6:=vy3.cell;have c8:=v8.cell;have f5:=vx3.frozen;have c5:=vx3.cell;have c6':=vy3'.cell;have f6':=vy3'.frozen;have c8':=v8'.cell;refine lW (i:=0) (t:=2) (d:=some 31) (v:=?v4_0_1) rfl rfl (by decide) rfl rfl (by kernel_rfl) (by kernel_rfl) (fun _ _ _ h=>h) ⟨by rfl,?hy4_0_1⟩ ?_;case hy4_0_1=>(go_simp;try with_reducible rfl)
    try simp only[Act.put,List.setIfInBounds_toArray,List.set_cons_zero,List.set_cons_succ]
    refine wpAny_ready (rs:=[1,2]) (by kernel_rfl) (by simp) ?_;refine AllReady.cons rfl (fun K hK=> ?_) ?_
    ·go_simp
     refine hK _ _ ?_;clear hK K;try simp only[Act.put,List.setIfInBounds_toArray,List.set_cons_zero,List.set_cons_succ]
     refine wpAny_ready (rs:=[2]) (by kernel_rfl) (by simp) ?_;refine AllReady.cons rfl (fun K hK=> ?_) AllReady.nil;go_simp;refine hK _ _ ?_;clear hK K;try simp only[Act.put,List.setIfInBounds_toArray,List.set_cons_zero,List.set_cons_succ]
     refine wpAny_ready (rs:=[3]) (by kernel_rfl) (by simp) ?_;refine AllReady.cons rfl (fun K hK=> ?_) AllReady.nil;go_simp;refine hK _ _ ?_;clear hK K;try simp only[Act.put,List.setIfInBounds_toArray,List.set_cons_zero,List.set_cons_succ]
     refine wpAny_done (by kernel_rfl) ?_ _;go_wp2_with fail
     go_roundw
     case rel=>exact⟨y,x % y,hgc,hy,hnr,hT'⟩
     case measure=>rw[hsv,htv];exact hmod
    refine AllReady.cons rfl (fun K hK=> ?_) ?_
    ·go_simp
     refine hK _ _ ?_;clear hK K;try simp only[Act.put,List.setIfInBounds_toArray,List.set_cons_zero,List.set_cons_succ]
     refine wpAny_ready (rs:=[1]) (by kernel_rfl) (by simp) ?_;refine AllReady.cons rfl (fun K hK=> ?_) AllReady.nil;go_simp;refine hK _ _ ?_;clear hK K;try simp only[Act.put,List.setIfInBounds_toArray,List.set_cons_zero,List.set_cons_succ]
     refine wpAny_ready (rs:=[3]) (by kernel_rfl) (by simp) ?_;refine AllReady.cons rfl (fun K hK=> ?_) AllReady.nil;go_simp;refine hK _ _ ?_;clear hK K;try simp only[Act.put,List.setIfInBounds_toArray,List.set_cons_zero,List.set_cons_succ]
     refine wpAny_done (by kernel_rfl) ?_ _;go_wp2_with fail
     go_roundw
     case rel=>exact⟨y,x % y,hgc,hy,hnr,hT'⟩
     case measure=>rw[hsv,htv];exact hmod
    exact AllReady.nil
def cI (W:World) (v:Value) (e:Ending) (w':World):Prop:=e= .returned v∧Below W.heap.size W w'
def qp (N L:Nat):List Value:=(List.range L).map fun j=>Value.int .u32 ((D N j:Nat):Int)
def GR (w:World) (base:Nat) (v:Value) (L N:Nat):Prop:=N<4294967296^L∧w.ownsRow base 237 1 v L (qp N L)
theorem GR.nil (w:World) (base:Nat):GR w base (.slice none 0 0) 0 0:=⟨by decide,World.ownsRow_nil _ _ _ _⟩
theorem GR.open {w:World} {base L N:Nat} {v:Value} (h:GR w base v L N):
  ∃a c,v= .slice a L c∧L≤c∧Rw w a L N∧(0<L→∃g,a=some ⟨g,0,none⟩∧base≤g∧g<w.heap.size∧∀p,w.frozen? ⟨g,p,none⟩=false):=by
 rcases h.2.2 with⟨rfl,h0⟩ | ⟨g,c,cur,rfl,hb,hg,hnc,hcm,hcs,htake⟩
 ·exact⟨none,0,by rw[h0],by omega,⟨h.1,fun hL=>by omega⟩,fun hL=>by omega⟩
 ·refine⟨some ⟨g,0,none⟩,c,rfl,hnc,⟨h.1,fun hL=>⟨g,0,rfl,fun j hj=> ?_⟩⟩,fun hL=>⟨g,rfl,hb,(Array.getElem?_eq_some_iff.1 hg).1,fun p=>frozen_of_row w g p cur _ hg⟩⟩;rw[Nat.zero_add,cell_of_row w g j cur _ (0,0) hg];have h1:(cur.toList.take (L*1))[j]? =some (.int .u32 ((D N j:Nat):Int)):=by rw[htake];simp[qp,hj]
  rw[List.getElem?_take]at h1;split at h1
  ·simpa using h1
  ·cases h1
theorem digL_set {N L p e:Nat} (hp:p<L) (he:e<4294967296):(qp N L).set p (.int .u32 (e:Int))=qp (upd N p e) L:=by
 apply List.ext_getElem?;intro i;rw[List.getElem?_set];unfold qp;by_cases hi:p=i
 ·subst hi;simp[hp,jK N p e he]
 ·rw[if_neg hi];simp only[List.getElem?_map,List.getElem?_range]
  cases hr:(List.range L)[i]? with
  | none=>simp
  | some x=>
   simp only[Option.map_some];have hx:x=i:=by
    have:=List.getElem?_eq_some_iff.1 hr;obtain⟨h1,h2⟩:=this;simpa using h2.symm
   subst hx;rw[fD N p e x he (by omega)]
theorem GR.store {w:World} {base g L c N p e:Nat} (h:GR w base (.slice (some ⟨g,0,none⟩) L c) L N) (hp:p<L) (he:e<4294967296):
  GR (w.setCell ⟨g,p,none⟩ (.int .u32 (e:Int))) base (.slice (some ⟨g,0,none⟩) L c) L (upd N p e):=by
 refine⟨ii h.1 hp he,by unfold qp;simp,?_⟩;rcases h.2.2 with⟨h1,h0⟩ | ⟨g',c',cur,hv,hb,hg,hnc,hcm,hcs,htake⟩
 ·cases h1
 ·cases hv;refine .inr ⟨g,c,cur.setIfInBounds p (.int .u32 (e:Int)),rfl,hb,heap_setCell_same w g p cur _ _ hg,hnc,hcm,by simpa using hcs,?_⟩;rw[Array.toList_setIfInBounds,List.take_set,htake,digL_set hp he]
theorem zb (N L e:Nat) (hN:N<4294967296^L) (he:e<4294967296):qp N L++ [.int .u32 (e:Int)]=qp (N+e*4294967296^L) (L+1):=by
 unfold qp;rw[List.range_succ,List.map_append]
 congr 1
 ·apply List.map_congr_left;intro j hj;have hj':j<L:=by simpa using hj
  have:D (N+e*4294967296^L) j=D N j:=by
   unfold D;obtain⟨d,rfl⟩:∃d,L=j+1+d:=⟨L - (j+1),by omega⟩;rw[Nat.pow_add,Nat.pow_succ,show e*(4294967296^j*4294967296*4294967296^d)=4294967296^j*(4294967296*(e*4294967296^d))by grind,Nat.add_mul_div_left _ _ (cG j),Nat.add_mul_mod_self_left]
  rw[this]
 ·have:D (N+e*4294967296^L) L=e:=by
   unfold D;rw[Nat.mul_comm,Nat.add_mul_div_left _ _ (cG L),Nat.div_eq_of_lt hN,Nat.zero_add,Nat.mod_eq_of_lt he]
  simp[this]
theorem GR.of_own {w:World} {base L N e:Nat} {v:Value} (hN:N<4294967296^L) (he:e<4294967296) (h:w.ownsRow base 237 1 v (L+1) (qp N L++ [.int .u32 (e:Int)])):GR w base v (L+1) (N+e*4294967296^L):=by
 refine⟨?_,by rw[←zb N L e hN he];exact h⟩;rw[Nat.pow_succ];have h1:(e+1)*4294967296^L≤4294967296*4294967296^L:=Nat.mul_le_mul_right _ he;rw[Nat.add_mul,Nat.one_mul]at h1;rw[Nat.mul_comm (4294967296^L)];have:=hN;omega
theorem GR.keep {w w':World} {base L N:Nat} {v:Value} (h:GR w base v L N) (hg:w.grownBy w' none):GR w' base v L N:=⟨h.1,h.2.kept hg (by cases hv:v.ownBlock<;>simp)⟩
def by' (s:ByteArray) (i:Nat):Nat:=if h:i<s.size then(s[i]'h).toNat else 0
def tL (s:ByteArray):Nat→Nat
 | 0=>0
 | k+1=>10*tL s k+(by' s k - 48)
def goodTo (s:ByteArray) (k:Nat):Prop:=∀j,j<k→48≤by' s j∧by' s j≤57
def RetP (W:World) (N:Nat) (c:Int) (e:Ending) (w':World):Prop:=∃v,e= .returned (.tuple #[v,.int .i64 c])∧bj W.heap.size w' v N∧Below W.heap.size W w'
structure ParseIs (s:ByteArray) (N:Nat) (c:Int):Prop where
 short:s.size=0→N=0∧c=1
 long:400<s.size→N=0∧c=3
 zero:1<s.size→s.size≤400→by' s 0=48→N=0∧c=2
 bad:0<s.size→s.size≤400→¬goodTo s s.size→N=0∧c=2
 good:0<s.size→s.size≤400→(by' s 0=48→s.size=1)→goodTo s s.size→N=tL s s.size∧c=0
theorem qq {s:ByteArray} (h:s.size≠0):s.toList.isEmpty=false:=by
 rw[ByteArray.toList_eq]
 cases hs:s.data.toList with
 | nil=>
  exfalso;apply h;have:=congrArg List.length hs;rw[Array.length_toList]at this;exact this
 | cons _ _=>rfl
theorem GR.newN {w w':World} {base L c N:Nat} {a:Option Addr} (h:GR w base (.slice a L c) L N) (hb:Below w.heap.size w w'):bj base w' (.agg #[.slice a (nl N) (nl N)]) N:=by
 obtain⟨a',c',e,hLc,hrw,hown⟩:=h.open;cases e;have hl:nl N≤L:=aR.2 h.1;refine⟨a,nl N,rfl,Nat.le_refl _,fun hL=> ?_⟩;obtain⟨g,rfl,hg,hgs,hf⟩:=hown (by omega);obtain⟨b,o,e,hd⟩:=hrw.cells (by omega);cases e;exact⟨g,0,rfl,hg,fun j hj=>(hb.cell (p:=⟨g,0+j,none⟩) hgs).trans (hd j (by omega)),fun j hj=>(hb.frozen (p:=⟨g,0+j,none⟩) hgs).trans (hf _)⟩
def fQ (N:Nat):List UInt8:=if h:N=0 then []else UInt8.ofNat (48+N % 10)::fQ (N / 10)
termination_by N
decreasing_by omega
theorem i9:fQ 0=[]:=by rw[fQ];rfl
theorem ob {N:Nat} (h:N≠0):fQ N=UInt8.ofNat (48+N % 10)::fQ (N / 10):=by rw[fQ,dif_neg h]
theorem decB_len (N k:Nat) (h:N<10^k):(fQ N).length≤k:=by
 induction k generalizing N with
 | zero=>
  have:N=0:=by simpa using h
  rw[this,i9];simp
 | succ k ih=>
  by_cases h0:N=0
  ·rw[h0,i9];simp
  ·rw[ob h0];have:=ih (N / 10) (by rw[Nat.div_lt_iff_lt_mul (by decide)];rw[Nat.pow_succ]at h;exact h);simp only[List.length_cons];omega
theorem oc (N:Nat):(fQ N).length≤10*nl N:=by
 refine decB_len N _ (Nat.lt_of_lt_of_le (dO N) ?_);rw[Nat.pow_mul];exact Nat.pow_le_pow_left (by decide) _
def bL (l:List UInt8):List Value:=l.map fun b=>Value.int .u8 (b.toNat:Int)
theorem infoU8:(Tryz.prog.info? 5).map (fun i=>(i.zero,i.size,i.bytes))=some (some (.int .u8 0),1,1):=by kernel_rfl
def BR (w:World) (base:Nat) (v:Value) (l:List UInt8):Prop:=w.ownsRow base 5 1 v l.length (bL l)
theorem BR.nil (w:World) (base:Nat):BR w base (.slice none 0 0) []:=World.ownsRow_nil _ _ _ _
theorem BR.open {w:World} {base:Nat} {v:Value} {l:List UInt8} (h:BR w base v l):
  ∃a c,v= .slice a l.length c∧l.length≤c∧(0<l.length→∃g,a=some ⟨g,0,none⟩∧base≤g∧g<w.heap.size∧∀j (hj:j<l.length),w.cell? ⟨g,j,none⟩=some (.int .u8 ((l[j]'hj).toNat:Int))):=by
 rcases h.2 with⟨rfl,h0⟩ | ⟨g,c,cur,rfl,hb,hg,hnc,hcm,hcs,htake⟩
 ·exact⟨none,0,by rw[h0],by omega,fun hL=>by omega⟩
 ·refine⟨some ⟨g,0,none⟩,c,rfl,hnc,fun hL=>⟨g,rfl,hb,(Array.getElem?_eq_some_iff.1 hg).1,fun j hj=> ?_⟩⟩;rw[cell_of_row w g j cur _ (0,0) hg];have h1:(cur.toList.take (l.length*1))[j]? =some (.int .u8 ((l[j]'hj).toNat:Int)):=by rw[htake];simp[bL,hj]
  rw[List.getElem?_take]at h1;split at h1
  ·simpa using h1
  ·cases h1
theorem BR.keep {w w':World} {base:Nat} {v:Value} {l:List UInt8} (h:BR w base v l) (hg:w.grownBy w' none):BR w' base v l:=World.ownsRow.kept h hg (by cases hv:v.ownBlock<;>simp)
theorem fE {w0:World} {ops:Array Oper} {rest:List Oper} {o:Oper} {a:Act} {Q:Exit→Act→World→Prop}
  (hg:o.guard=none) (s x:Operand) (hop:o.op=Op.call {callee:=Callee.builtin Builtin.append,args:=#[s,x],argTypes:=#[196,196]})
  (base:Nat) (v:Value) (l:List UInt8) (b:UInt8) (e0:Int) (he0:e0=(b.toNat:Int)) (hs:a.eval s=v) (hgr:BR w0 base v l) (hbase:base≤w0.heap.size) (hx:a.eval x= .slice (some ⟨w0.heap.size,0,none⟩) 1 1) (hL:l.length+1≤30000000000000)
  (hK:∀v' w',BR w' base v' (l++ [b])→Below base w0 w'→base≤w'.heap.size→w0.grownBy w' v.ownBlock→wpList Tryz.prog ops Q rest (a.put o.dst v') w'):
  wpList Tryz.prog ops Q (o::rest) a (w0.alloc (.cells #[.int .u8 e0] 5)):=by
 subst he0;obtain⟨i,hi,hz0,hz1,hz2⟩:=info_parts infoU8;have hgr':=hgr.keep (World.grownBy_alloc w0 (.cells #[.int .u8 (b.toNat:Int)] 5) none);have hb1:Below base w0 (w0.alloc (.cells #[.int .u8 (b.toNat:Int)] 5)):=(Below.refl _ _).alloc hbase _;refine wpList_append_own _ hg s x 196 hop base 5 i (.int .u8 0) 1 1 Tryz.underlying196 hi hz0 hz1 hz2 rfl (by decide) v l.length (bL l) hs hgr'
  ⟨w0.heap.size,0,none⟩ 1 1 [.int .u8 (b.toNat:Int)] hx rfl ?_ ?_ (by simp only[maxLen];omega) (by omega) (Nat.le_trans hbase hb1.size) ?_
 ·intro j u hj
  match j,hj with
  | 0,hj=>simp at hj;subst hj;simp[Addr.add]
  | (j+1),hj=>simp at hj
 ·intro u hu;simp at hu;subst hu;rfl
 ·intro v' w' ho hgb _;refine hK v' w' ?_ (hb1.grown hgb (Nat.le_trans hbase hb1.size) (fun k hk=>(World.ownsRow.lt hgr' k hk).1)) (Nat.le_trans hbase (Nat.le_trans hb1.size hgb.size)) ?_
  rotate_left
  ·exact⟨hgb.os,hgb.tape,hgb.output,Nat.le_trans hb1.size hgb.size,fun k hk hne=>(hgb.block k (Nat.lt_of_lt_of_le hk hb1.size) hne).trans (World.grownBy_alloc w0 _ none |>.block k hk (by simp))⟩
  unfold BR;have e:bL (l++ [b])=bL l++ [.int .u8 (b.toNat:Int)]:=by simp[bL]
  rw[e,List.length_append];exact ho
def kJ (w:World) (base:Nat) (x:Option Addr) (L:Nat):Prop:=0<L→∃g o,x=some ⟨g,o,none⟩∧g<w.heap.size∧(g<base∨∃cur,w.heap[g]? =some (.cells cur 237 (0,0)))
theorem kJ.ne {w:World} {base L:Nat} {x:Option Addr} {v:Value} {l:List UInt8} (h:kJ w base x L) (hb:BR w base v l) (hL:0<L):∀g o,x=some ⟨g,o,none⟩→some g≠v.ownBlock:=by
 intro g o hx e;obtain⟨g',o',hx',_,h'⟩:=h hL;rw[hx]at hx';cases hx';rcases hb.2 with⟨rfl,_⟩ | ⟨k,c,cur,rfl,hk,hg,_⟩
 ·cases e
 ·simp only[Value.ownBlock,Option.some.injEq]at e;subst e;rcases h' with h' | ⟨cur',h'⟩
  ·omega
  ·rw[hg]at h';cases h'
theorem kJ.append {w w':World} {base L N:Nat} {x:Option Addr} {v:Value} {l:List UInt8} (h:kJ w base x L) (hr:Rw w x L N) (hb:BR w base v l) (hg:w.grownBy w' v.ownBlock):kJ w' base x L∧Rw w' x L N:=by
 refine⟨fun hL=> ?_,hr.lt,fun hL=> ?_⟩
 ·obtain⟨g,o,hx,hlt,h'⟩:=h hL;have hne:=h.ne hb hL g o hx;refine⟨g,o,hx,Nat.lt_of_lt_of_le hlt hg.size,?_⟩;rcases h' with h' | ⟨cur',h'⟩
  ·exact .inl h'
  ·exact .inr ⟨cur',(hg.block g hlt hne).trans h'⟩
 ·obtain⟨b,o,hx,hd⟩:=hr.cells hL;exact⟨b,o,hx,hd.kept hg (h.ne hb hL b o hx)⟩
theorem Rw.norm {w:World} {a:Option Addr} {L N:Nat} (h:Rw w a L N):Rw w a (nl N) N:=⟨dO N,fun hL=>by
 have hl:nl N≤L:=aR.2 h.lt;obtain⟨b,o,hx,hd⟩:=h.cells (by omega);exact⟨b,o,hx,fun j hj=>hd j (by omega)⟩⟩
theorem kJ.of_own {w:World} {base g L N M:Nat} (h:aU w g L N):kJ w base (some ⟨g,0,none⟩) M:=fun _=>by
 obtain⟨_,cur,hg,_⟩:=h;exact⟨g,0,rfl,(Array.getElem?_eq_some_iff.1 hg).1,.inr ⟨cur,hg⟩⟩
theorem kJ.of_low {w:World} {L N:Nat} {x:Option Addr} (h:Rw w x L N):kJ w w.heap.size x L:=fun hL=>by
 obtain⟨b,o,hx,hd⟩:=h.cells hL;exact⟨b,o,hx,hd.lt hL,.inl (hd.lt hL)⟩
noncomputable def valOf (w:World) (v:Value):Nat:=Classical.epsilon (IsN w v)
theorem IsN.valOf {w:World} {v:Value} {N:Nat} (h:IsN w v N):valOf w v=N:=(Classical.epsilon_spec (p:=IsN w v) ⟨N,h⟩).unique h
end Go.Proofs.YtggfmklppkioeaaGreat
