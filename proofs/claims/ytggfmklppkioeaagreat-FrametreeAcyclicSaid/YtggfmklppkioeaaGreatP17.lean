/- Trees of frames: the example that is tried first; nobody. -/
import Derived.Test.YtggfmklppkioeaaGreatP16
namespace Go.Proofs.YtggfmklppkioeaaGreat
set_option linter.unusedSimpArgs false
set_option linter.unusedVariables false
set_option maxRecDepth 100000
open Go.RowKit
open Classical
theorem TInv.new {w w1:World} {t m:Nat} (h:TM w1 t m []) (ht:w.heap.size≤t) (hm:w.heap.size≤m) (hb:Below w.heap.size w w1):TInv w w1 t m []:=
 ⟨h,.nil,fun g hg=>by
  simp only[fpT,List.flatMap_nil,List.mem_cons,List.not_mem_nil,or_false]at hg
  rcases hg with rfl | rfl
  ·exact ht
  ·exact hm,hb⟩
theorem TInv.att {w0 w w':World} {t m:Nat} {E E':List Ch} {R':Tr} {c p:Nm} {f e:Int} (h:TInv w0 w t m E) (k:TPost w t m E w' E') (r:REq (trE E') R') (d:AttS db (trE E) c p f R' e):TInv w0 w' t m E':=
 h.next (s:=⟨0,c,p,f,Pq.id⟩) (e:=e) k r (by unfold DoS;exact d) Pq.ok.id
theorem nm1_ne {a b:UInt8} (h:a≠b):nm1 a≠nm1 b:=fun e=>h (by
 have:=congrArg ByteArray.data e
 simpa [nm1]using this)
theorem isNm1 {a:UInt8} (h:oP a):db (nm1 a):=⟨a,h,rfl⟩
abbrev nA:Nm:=nm1 97
abbrev nB:Nm:=nm1 98
theorem nAB:nA≠nB:=nm1_ne (by decide)
theorem iA:db nA:=isNm1 (.inl ⟨by decide,by decide⟩)
theorem iB:db nB:=isNm1 (.inl ⟨by decide,by decide⟩)
theorem vO {P:Nm→Prop} {n:Nat} {x y:Nm} (hn:bO P n) (hne:x≠y) (h:∀z,P z↔z=x∨z=y):n=2:=
 bO.uniq hn ⟨[x,y],by simp[hne],fun z=>by rw[h];simp,rfl⟩
theorem aw1 {R':Tr} {code:Int} (h:AttS db [] nB nA 10 R' code):code=0∧R'=fD [] nB nA 10:=by
 have hk:∀z,(bo [] z∨z=nB∨z=nA)↔z=nB∨z=nA:=fun z=>⟨fun h=>h.elim (fun⟨q,hq,_⟩=>by cases hq) id,.inr⟩
 cases h with
 | name h=>exact absurd ⟨iB,iA⟩ h
 | time h ht=>
  rcases ht with ht | ht | ⟨k,x,ht⟩ | ⟨x,hx,_⟩
  ·omega
  ·unfold mj at ht;omega
  ·have:=ht.1;simp at this
  ·cases hx
 | full h _ _ _ _ n hn hf=>
  have:=vO hn (fun e=>nAB e.symm) hk
  rcases hf with hf | hf
  ·omega
  ·simp[lH]at hf
 | cycle h _ _ _ _ n hn hf hc=>
  rcases hc with hc | ⟨q,hq,_⟩
  ·cases hc with
   | step e _=>obtain⟨q,hq,_⟩:=lI e;cases hq
  ·cases hq
 | ok h _ _ _ _ n hn hf hc=>exact⟨rfl,rfl⟩
theorem uG {R:Tr} (hR:REq R (fD [] nB nA 10)) {a:Int} (ha:10≤a):par R a nB=some nA:=by
 rw[hR.par,iX,if_pos rfl]
 have:par [] a nB=none:=rfl
 rw[this];simp[ha]
theorem q9 {R:Tr} (hR:REq R (fD [] nB nA 10)) {q:Nm×Lk}:q∈R↔q=(nB,eg nA 10):=by
 rw[hR.mem];unfold fD;simp
theorem aw2 {R R':Tr} (hR:REq R (fD [] nB nA 10)) {code:Int} (h:AttS db R nA nB 5 R' code):code=19∧R'=R:=by
 have hl:lks R nA=[]:=by
  rw[hR nA,lJ,if_neg nAB,lH]
 have hk:∀z,(bo R z∨z=nA∨z=nB)↔z=nA∨z=nB:=fun z=>⟨fun h=>h.elim (fun⟨q,hq,h⟩=>by
  rw[q9 hR]at hq;subst hq
  rcases h with h | h
  ·exact .inr h.symm
  ·exact .inl h.symm) id,.inr⟩
 cases h with
 | name h=>exact absurd ⟨iA,iB⟩ h
 | time h ht=>
  rcases ht with ht | ht | ⟨k,x,ht⟩ | ⟨x,hx,_⟩
  ·omega
  ·unfold mj at ht;omega
  ·have:=ce.2 (List.mem_of_getElem? ht.1);rw[hl]at this;cases this
  ·rw[hl]at hx;cases hx
 | full h _ _ _ _ n hn hf=>
  have:=vO hn nAB hk
  rcases hf with hf | hf
  ·omega
  ·rw[hl]at hf;simp at hf
 | cycle h _ _ _ _ n hn hf hc=>exact⟨rfl,rfl⟩
 | ok h _ _ _ _ n hn hf hc=>exact absurd (.inr ⟨_,(q9 hR).2 rfl,by show(5:Int)<10;omega,.step (uG hR (by show(10:Int)≤10;omega)) (.refl _)⟩) hc
theorem aw_root {R:Tr} (hR:REq R (fD [] nB nA 10)) {y:Nm} (h:vJ R 12 nB y):y=nA:=by
 rcases h with⟨h,_⟩ | ⟨_,h1,h2⟩
 ·exact absurd ⟨_,(q9 hR).2 rfl,.inl rfl⟩ h
 ·have hp:=uG hR (a:=12) (by omega)
  cases h1 with
  | refl=>rw[hp]at h2;cases h2
  | step e t=>
   rw[hp]at e;injection e with e;subst e
   cases t with
   | refl=>rfl
   | step e t=>
    obtain⟨q,hq,_,_⟩:=lI e
    rw[q9 hR]at hq;injection hq with h1;exact absurd h1 nAB
theorem mq {w:World} {t m:Nat} {E:List Ch} {c p:Nm} {a:Int} (h:TM w t m E) (hp:par (trE E) a c=some p):Calls Tryz.prog 34 #[ptB t,.string c,.int .i64 a] w fun e w'=>e= .returned (.tuple #[.string p,.bool true])∧w'=w:=by
 have h1:=sE h c a
 unfold par at hp
 rw[←h.tAt]at hp
 cases hl:atE E c a with
 | none=>rw[hl]at hp;cases hp
 | some l=>
  rw[hl]at hp h1
  have e:l.x.par=p:=by injection hp
  rw[←e]
  exact h1
theorem pT {w:World} {t m:Nat} {E:List Ch} {c:Nm} {a:Int} (h:TM w t m E) (hp:par (trE E) a c=none):Calls Tryz.prog 34 #[ptB t,.string c,.int .i64 a] w fun e w'=>e= .returned (.tuple #[.string ByteArray.empty,.bool false])∧w'=w:=by
 have h1:=sE h c a
 unfold par at hp
 rw[←h.tAt]at hp
 cases hl:atE E c a with
 | none=>rw[hl]at h1;exact h1
 | some l=>rw[hl]at hp;cases hp
set_option maxHeartbeats 1000000 in
theorem lP (w:World):Calls Tryz.prog 30 #[] w fun e w'=>e= .returned (.bool true)∧Below w.heap.size w w':=by
 have hnew:=aan w
 go_enter Tryz.func30,Tryz.ntmps30
 go_wp2_with (first
  | (go_at_call 31;refine hnew.mono ?_;rintro e w1 ⟨t,m,rfl,hT,h1,h2,h3⟩;have HI:=Lib.hid (TInv.new hT h1 h2 h3);have hat1:=oR (c:=nB) (p:=nA) (f:=10) hT TOk.nil (.inl ⟨_,.inl ⟨by decide,by decide⟩,rfl⟩) (.inl ⟨_,.inl ⟨by decide,by decide⟩,rfl⟩);clear hnew hT h1 h2 h3)
  | (go_at_call 67;refine hat1.mono ?_;rintro e w2 ⟨E2,R2,code,rfl,hP,hR,hA⟩;have HI2:=Lib.hid (HI.out.att hP hR hA);obtain⟨rfl,hR2⟩:=aw1 hA;have HR2:=Lib.hid (show REq (trE E2) (fD [] nB nA 10)from by rw[hR2]at hR;exact hR);have hat2:=oR (c:=nA) (p:=nB) (f:=5) HI2.out.tm HI2.out.sane.ok (.inl ⟨_,.inl ⟨by decide,by decide⟩,rfl⟩) (.inl ⟨_,.inl ⟨by decide,by decide⟩,rfl⟩);clear hat1 hP hR hA hR2 HI)
  | (go_at_call 67;refine hat2.mono ?_;rintro e w3 ⟨E3,R3,code,rfl,hP,hR,hA⟩;have HI3:=Lib.hid (HI2.out.att hP hR hA);obtain⟨rfl,hR3⟩:=aw2 HR2.out hA;have HR3:=Lib.hid (show REq (trE E3) (fD [] nB nA 10)from by rw[hR3]at hR;exact hR.trans HR2.out);have hpa:=mq HI3.out.tm (uG HR3.out (a:=10) (Int.le_refl _));have hro:=aam HI3.out.tm HI3.out.sane.ok nB 12;clear hat2 hP hR hA hR3 HI2 HR2)
  | (go_at_call 34;refine hpa.mono ?_;rintro e w4 ⟨rfl,hw4⟩;obtain rfl:=hw4.symm)
  | (go_at_call 36;refine hro.mono ?_;rintro e w5 ⟨y,rfl,hy,hb⟩;obtain rfl:=aw_root HR3.out hy;have HB:=Lib.hid (HI3.out.bel.trans (hb.mono HI3.out.bel.size));clear hb hy))
 go_ret
 exact⟨rfl,HB.out⟩
end Go.Proofs.YtggfmklppkioeaaGreat
