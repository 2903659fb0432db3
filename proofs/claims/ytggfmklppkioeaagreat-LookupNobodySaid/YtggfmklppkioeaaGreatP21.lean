/- The example that the laws of package lookup try first: its tree, plainly. The example that the laws of package lookup try first: what is found in it. Vectors and translations of whole numbers. A region by the executor, in the middle of a walk. lookup.Latest. lookup.Latest: the walk. The example that the laws of package lookup try first. -/
import Derived.Test.YtggfmklppkioeaaGreatP20
import Derived.Sort.CutIn
namespace Go.Proofs.YtggfmklppkioeaaGreat
set_option linter.unusedSimpArgs false
set_option linter.unusedVariables false
set_option maxRecDepth 100000
open Go.RowKit
section
open Classical
def sh (x y z:Int):Pq:=⟨Qq.id,Vq.of x y z⟩
theorem sF (x y z:Int):(sh x y z).good:=⟨n9,Vq.good.of x y z⟩
theorem jy {x y z:Int} (hx: -1000000≤x∧x≤1000000) (hy: -1000000≤y∧y≤1000000) (hz: -1000000≤z∧z≤1000000):(sh x y z).ok 2:=
 ⟨qI,⟨aL (by omega) (by omega),aL (by omega) (by omega),aL (by omega) (by omega)⟩⟩
theorem uF {S:List St} {a:Int} {p:Pq} (g:p.good):qc S (St.mk a p).raw=sj S ⟨a,p⟩:=by
 have h:∃s:St,(St.mk a p).raw=s.raw∧s.pose.good:=⟨⟨a,p⟩,rfl,g⟩
 unfold qc
 rw[dif_pos h]
 have h1:=h.choose_spec.1
 generalize h.choose=s at *
 obtain⟨b,q⟩:=s
 have e1:=ux h1
 have e2:a=b:=by simp only[St.raw,RSt.mk.injEq]at h1;exact h1.1
 rw[e1,e2]
abbrev nC:Nm:=nm1 99
abbrev nX:Nm:=nm1 120
theorem nAC:nA≠nC:=mZ (by decide)
theorem nBC:nB≠nC:=mZ (by decide)
theorem nAX:nA≠nX:=mZ (by decide)
theorem nBX:nB≠nX:=mZ (by decide)
theorem nCX:nC≠nX:=mZ (by decide)
theorem iC:dB nC:=isNm1 (.inl ⟨by decide,by decide⟩)
abbrev awS:List St:=[⟨0,sh 1 0 0⟩,⟨10,sh 3 0 0⟩]
abbrev awB:Lk:=⟨nA,0, -1,false,Pq.zero,awS⟩
abbrev awC:Lk:=⟨nA,5, -1,true,sh 0 1 0,[]⟩
theorem aw_u1 {R R':Tr} {e:Int} (hR:REq R []) (d:AttS dB R nB nA 0 R' e):e=0∧REq R' [(nB,bM nA 0)]:=by
 have k:AttS dB [] nB nA 0 (jW [] nB nA 0) 0:=.ok ⟨iB,iA⟩ (by decide) (by decide) (fun i q h=>by simp at h) (fun x h=>by cases h) 2 ⟨[nB,nA],by simp[nAB.symm],fun x=>by
  have:¬aO [] x:=fun⟨q,hq,_⟩=>by cases hq
  simp[this],rfl⟩ ⟨by decide,by decide⟩ (fun h=>by
  rcases h with h | ⟨q,hq,_⟩
  ·cases h with
   | step h _=>obtain⟨q,hq,_⟩:=gN h;cases hq
  ·cases hq)
 exact d.uniq hR k
theorem aw_t1 {a:Int} {x:Nm} (h:par [(nB,bM nA 0)] a x≠none):x=nB:=by
 cases hp:par [(nB,bM nA 0)] a x with
 | none=>exact absurd hp h
 | some y=>
  obtain⟨q,hq,_,_⟩:=gN hp
  simp only[List.mem_singleton]at hq
  exact congrArg Prod.fst hq
theorem aw_u2 {R R':Tr} {e:Int} (hR:REq R [(nB,bM nA 0)]) (d:AttS dB R nC nA 5 R' e):e=0∧REq R' [(nB,bM nA 0),(nC,bM nA 5)]:=by
 have hl:lks [(nB,bM nA 0)] nC=[]:=by rw[el,if_neg nBC,je]
 have k:AttS dB [(nB,bM nA 0)] nC nA 5 (jW [(nB,bM nA 0)] nC nA 5) 0:=.ok ⟨iC,iA⟩ (by decide) (by decide) (fun i q h k=>by
   have:=List.mem_of_getElem? h
   simp only[List.mem_singleton]at this
   subst this;exact nBC k.1) (fun x h=>by rw[hl]at h;cases h) 3 ⟨[nC,nB,nA],by simp[nAB.symm,nAC.symm,nBC.symm],fun x=>by
  have:aO [(nB,bM nA 0)] x↔x=nB∨x=nA:=⟨fun⟨q,hq,h⟩=>by
   simp only[List.mem_singleton]at hq;subst hq
   rcases h with h | h
   ·exact .inl h.symm
   ·exact .inr h.symm,fun h=>⟨_,List.mem_singleton.2 rfl,by rcases h with rfl | rfl;exact .inl rfl;exact .inr rfl⟩⟩
  show _↔aO [(nB,bM nA 0)] x∨x=nC∨x=nA
  rw[this]
  simp only[List.mem_cons,List.not_mem_nil,or_false]
  constructor
  ·rintro(h | h | h)
   ·exact .inr (.inl h)
   ·exact .inl (.inl h)
   ·exact .inr (.inr h)
  ·rintro((h | h) | h | h)
   ·exact .inr (.inl h)
   ·exact .inr (.inr h)
   ·exact .inl h
   ·exact .inr (.inr h),rfl⟩ ⟨by decide,by rw[hl];decide⟩ (fun h=>by
  rcases h with h | ⟨q,hq,h,_⟩
  ·cases h with
   | step h _=>exact nAB (aw_t1 (by rw[h];simp))
  ·simp only[List.mem_singleton]at hq;subst hq
   exact absurd h (by decide))
 exact d.uniq hR k
theorem aw_u3 {R R':Tr} {e:Int} (hT:TOk R) (hR:REq R [(nB,bM nA 0),(nC,bM nA 5)]) (d:FixS (decide (sh 0 1 0).good) (sh 0 1 0) R nC R' e):e=0∧REq R' [(nB,bM nA 0),(nC,awC)]:=by
 have k:FixS (decide (sh 0 1 0).good) (sh 0 1 0) [(nB,bM nA 0),(nC,bM nA 5)] nC ([(nB,bM nA 0)]++(nC,{bM nA 5 with st:=true,po:=sh 0 1 0})::[]) 0:=
  .ok (A:=[(nB,bM nA 0)]) (B:=[]) rfl rfl rfl rfl (decide_eq_true (sF _ _ _))
 exact d.uniq hT (hT.of_req hR) hR k
theorem lk_b {x y:Lk}:lks [(nB,x),(nC,y)] nB=[x]:=by rw[el,if_pos rfl,el,if_neg (fun e=>nBC e.symm),je]
theorem lk_c {x y:Lk}:lks [(nB,x),(nC,y)] nC=[y]:=by rw[el,if_neg nBC,el,if_pos rfl,je]
theorem aw_u4 {R R':Tr} {e:Int} (hT:TOk R) (hR:REq R [(nB,bM nA 0),(nC,awC)]) (d:SetS (j2 0 (sh 1 0 0)) R nB 0 R' e):e=0∧REq R' [(nB,{bM nA 0 with tr:=[⟨0,sh 1 0 0⟩]}),(nC,awC)]:=by
 have ha:j2 0 (sh 1 0 0) (bM nA 0).tr=([⟨0,sh 1 0 0⟩],0):=by
  rw[show j2 0 (sh 1 0 0) (bM nA 0).tr=qc [] (St.mk 0 (sh 1 0 0)).raw from rfl,uF (sF _ _ _)]
  unfold sj
  simp[aM,plN]
 have k:SetS (j2 0 (sh 1 0 0)) [(nB,bM nA 0),(nC,awC)] nB 0 ([]++(nB,{bM nA 0 with tr:=(j2 0 (sh 1 0 0) (bM nA 0).tr).1})::[(nC,awC)]) (j2 0 (sh 1 0 0) (bM nA 0).tr).2:=
  .ok (A:=[]) (B:=[(nC,awC)]) rfl (by unfold tAt;rw[lk_b];rfl) rfl
 rw[ha]at k
 exact d.uniq hT hR k
theorem aw_u5 {R R':Tr} {e:Int} (hT:TOk R) (hR:REq R [(nB,{bM nA 0 with tr:=[⟨0,sh 1 0 0⟩]}),(nC,awC)]) (d:SetS (j2 10 (sh 3 0 0)) R nB 10 R' e):e=0∧REq R' [(nB,awB),(nC,awC)]:=by
 have hop:¬opp (sh 1 0 0) (sh 3 0 0):=by
  unfold opp
  have e1:(sh 1 0 0).rot.inv.mul (sh 3 0 0).rot=Qq.id:=g_inv' n9
  rw[e1];decide
 have ha:j2 10 (sh 3 0 0) [⟨0,sh 1 0 0⟩]=(awS,0):=by
  rw[show j2 10 (sh 3 0 0) [⟨0,sh 1 0 0⟩]=qc [⟨0,sh 1 0 0⟩] (St.mk 10 (sh 3 0 0)).raw from rfl,uF (sF _ _ _)]
  unfold sj
  simp[aM,plN,hop]
 have k:SetS (j2 10 (sh 3 0 0)) [(nB,{bM nA 0 with tr:=[⟨0,sh 1 0 0⟩]}),(nC,awC)] nB 10 ([]++(nB,{bM nA 0 with tr:=(j2 10 (sh 3 0 0) [⟨0,sh 1 0 0⟩]).1})::[(nC,awC)]) (j2 10 (sh 3 0 0) [⟨0,sh 1 0 0⟩]).2:=
  .ok (A:=[]) (B:=[(nC,awC)]) (x:= {bM nA 0 with tr:=[⟨0,sh 1 0 0⟩]}) rfl (by unfold tAt;rw[lk_b];rfl) rfl
 rw[ha]at k
 exact d.uniq hT hR k
end
section
open Classical
section
variable {R:Tr} {a:Int} (hR:REq R [(nB,awB),(nC,awC)])
include hR
theorem aw_lb:lks R nB=[awB]:=by rw[hR nB,lk_b]
theorem aw_lc:lks R nC=[awC]:=by rw[hR nC,lk_c]
theorem l9 {q:Nm×Lk}:q∈R↔q=(nB,awB)∨q=(nC,awC):=by rw[hR.mem];simp
theorem aw_tb (h:0≤a):tAt R nB a=some awB:=by
 have:awB.has a=true:=cL.2 ⟨h,.inl rfl⟩
 unfold tAt;rw[aw_lb hR];simp only[List.find?,this]
theorem aw_tc (h:5≤a):tAt R nC a=some awC:=by
 have:awC.has a=true:=cL.2 ⟨h,.inl rfl⟩
 unfold tAt;rw[aw_lc hR];simp only[List.find?,this]
theorem aw_tc0 (h:a<5):tAt R nC a=none:=by
 have:awC.has a=false:=Bool.eq_false_iff.2 (fun e=>by have:=(cL.1 e).1;simp only at this;omega)
 unfold tAt;rw[aw_lc hR];simp only[List.find?,this]
theorem aw_pb (h:0≤a):par R a nB=some nA:=by unfold par;rw[aw_tb hR h];rfl
theorem aw_pc (h:5≤a):par R a nC=some nA:=by unfold par;rw[aw_tc hR h];rfl
theorem aw_pc0 (h:a<5):par R a nC=none:=by unfold par;rw[aw_tc0 hR h];rfl
theorem aw_pa:par R a nA=none:=by
 cases hp:par R a nA with
 | none=>rfl
 | some y=>
  obtain⟨q,hq,_,_⟩:=gN hp
  rcases(l9 hR).1 hq with e | e
  ·exact absurd (congrArg Prod.fst e) nAB
  ·exact absurd (congrArg Prod.fst e) nAC
theorem yf:aO R nA:=⟨_,(l9 hR).2 (.inl rfl),.inr rfl⟩
theorem uG:aO R nB:=⟨_,(l9 hR).2 (.inl rfl),.inl rfl⟩
theorem uH:aO R nC:=⟨_,(l9 hR).2 (.inr rfl),.inl rfl⟩
theorem aw_kx:¬aO R nX:=fun⟨q,hq,h⟩=>by
 rcases(l9 hR).1 hq with e | e<;>subst e
 ·rcases h with h | h
  ·exact nBX h
  ·exact nAX h
 ·rcases h with h | h
  ·exact nCX h
  ·exact nAX h
theorem yg:cO R a nA=[nA]:=l7 (.root (aw_pa hR))
theorem uI (h:0≤a):cO R a nB=[nB,nA]:=l7 (.step (aw_pb hR h) (.root (aw_pa hR)))
theorem aw_ac (h:5≤a):cO R a nC=[nC,nA]:=l7 (.step (aw_pc hR h) (.root (aw_pa hR)))
theorem aw_ac0 (h:a<5):cO R a nC=[nC]:=l7 (.root (aw_pc0 hR h))
theorem aw_eb (h:0≤a):dw R nB a=trkP awS a:=by unfold dw;rw[aw_tb hR h];rfl
theorem aw_ec (h:5≤a):dw R nC a=(sh 0 1 0,0):=by unfold dw;rw[aw_tc hR h];rfl
theorem pV (h:5≤a):aU R a nB nC=(nA,0):=by
 unfold aU
 rw[if_pos ⟨uG hR,uH hR⟩,uI hR (by omega),aw_ac hR h]
 simp[j5,nBC,nAB.symm]
theorem aw_mba (h:0≤a):aU R a nB nA=(nA,0):=by
 unfold aU
 rw[if_pos ⟨uG hR,yf hR⟩,uI hR h,yg hR]
 simp[j5,nAB.symm]
theorem aw_mab (h:0≤a):aU R a nA nB=(nA,0):=by
 unfold aU
 rw[if_pos ⟨yf hR,uG hR⟩,uI hR h,yg hR]
 simp[j5]
theorem aw_mca (h:5≤a):aU R a nC nA=(nA,0):=by
 unfold aU
 rw[if_pos ⟨uH hR,yf hR⟩,aw_ac hR h,yg hR]
 simp[j5,nAC.symm]
theorem aw_mbc0 (h:0≤a) (h5:a<5):aU R a nB nC=(ByteArray.empty,18):=by
 unfold aU
 rw[if_pos ⟨uG hR,uH hR⟩,uI hR h,aw_ac0 hR h5]
 simp[j5,nBC,nAC]
theorem aw_ba (h:0≤a):cH (cO R a nB) nA=[nB]:=by rw[uI hR h];simp[cH,nAB.symm]
theorem aw_ca (h:5≤a):cH (cO R a nC) nA=[nC]:=by rw[aw_ac hR h];simp[cH,nAC.symm]
theorem aw_na:cH (cO R a nA) nA=[]:=by rw[yg hR];simp[cH]
theorem aw_uc (h:5≤a):upP R a nC nA=((sh 0 1 0).mul Pq.id,0):=by
 unfold upP;rw[aw_ca hR h];unfold fJ;rw[aw_ec hR h,if_pos rfl];rfl
theorem aw_ua:upP R a nA nA=(Pq.id,0):=by unfold upP;rw[aw_na hR];rfl
theorem yi {p:Pq} (h:0≤a) (k:trkP awS a=(p,0)):upP R a nB nA=(p.mul Pq.id,0):=by
 unfold upP;rw[aw_ba hR h];unfold fJ;rw[aw_eb hR h,k,if_pos rfl];rfl
theorem aw_ub0 {p:Pq} {c:Int} (h:0≤a) (k:trkP awS a=(p,c)) (hc:c≠0):upP R a nB nA=(Pq.zero,c):=by
 unfold upP;rw[aw_ba hR h];unfold fJ;rw[aw_eb hR h,k,if_neg hc]
end
theorem iV {R:Tr} {a:Int} {tq fr top:Nm} {U D:Pq} (hm:aU R a fr tq=(top,0)) (hu:upP R a fr top=(U,0)) (hd:upP R a tq top=(D,0)):bd R a tq fr=(D.inv.mul U,0):=by
 unfold bd
 rw[hm,if_neg (by simp),hu,if_neg (by simp),hd,if_neg (by simp)]
theorem uJ {R:Tr} {a:Int} {tq fr x:Nm} {c:Int} (hm:aU R a fr tq=(x,c)) (h:c≠0):bd R a tq fr=(Pq.zero,c):=by
 unfold bd
 rw[hm,if_pos h]
theorem uK {R:Tr} {a:Int} {tq fr top:Nm} {U:Pq} {c:Int} (hm:aU R a fr tq=(top,0)) (hu:upP R a fr top=(U,c)) (h:c≠0):bd R a tq fr=(Pq.zero,c):=by
 unfold bd
 rw[hm,if_neg (by simp),hu,if_pos h]
theorem aw_k0:trkP awS 0=(sh 1 0 0,0):=by simp[trkP,plN]
theorem aw_k10:trkP awS 10=(sh 3 0 0,0):=by simp[trkP,plN]
theorem aw_k5:trkP awS 5=(sh 2 0 0,0):=by
 have e:atP ⟨0,sh 1 0 0⟩ ⟨10,sh 3 0 0⟩ 0 5=sh 2 0 0:=by
  rw[atP_m (by decide)];kernel_rfl
 simp[trkP,plN,e]
theorem aw_kl {a:Int} (h:10<a):trkP awS a=(Pq.zero,17):=by
 unfold trkP
 simp only[List.getElem?_cons_zero,List.length_cons,List.length_nil]
 rw[show(0+1+1 - 1:Nat)=1 from rfl,show awS[1]? =some ⟨10,sh 3 0 0⟩from rfl]
 simp only
 rw[if_pos (.inr h)]
section
variable {R:Tr} (hR:REq R [(nB,awB),(nC,awC)])
include hR
theorem aw_f1:bd R 5 nC nB=(sh 2 (-1) 0,0):=by
 rw[iV (pV hR (by decide)) (yi hR (by decide) aw_k5) (aw_uc hR (by decide))]
 rw[show((sh 0 1 0).mul Pq.id).inv.mul ((sh 2 0 0).mul Pq.id)=sh 2 (-1) 0 by kernel_rfl]
theorem aw_f2:bd R 11 nA nB=(Pq.zero,17):=uK (aw_mba hR (by decide)) (aw_ub0 hR (by decide) (aw_kl (by decide)) (by decide)) (by decide)
theorem aw_f3:bd R 4 nC nB=(Pq.zero,18):=uJ (aw_mbc0 hR (by decide) (by decide)) (by decide)
theorem aw_f4 (a:Int):bd R a nX nB=(Pq.zero,6):=uJ (x:=ByteArray.empty) (by unfold aU;rw[if_neg (fun h=>aw_kx hR h.2)]) (by decide)
theorem aw_f5:(bd R 10 nC nB).2=0:=by rw[iV (pV hR (by decide)) (yi hR (by decide) aw_k10) (aw_uc hR (by decide))]
theorem aw_f6:(bd R eo nC nB).2=17:=by rw[uK (pV hR (by decide)) (aw_ub0 hR (by decide) (aw_kl (by decide)) (by decide)) (by decide)]
theorem aw_f7:(bd R eo nA nC).2=0:=by rw[iV (aw_mca hR (by decide)) (aw_uc hR (by decide)) (aw_ua hR)]
theorem aw_f8:zZ R nB 10 nB 0 nA=(sh (-2) 0 0,0):=by
 have h1:bd R 0 nA nB=(Pq.id.inv.mul ((sh 1 0 0).mul Pq.id),0):=iV (aw_mba hR (by decide)) (yi hR (by decide) aw_k0) (aw_ua hR)
 have h2:bd R 10 nB nA=(((sh 3 0 0).mul Pq.id).inv.mul Pq.id,0):=iV (aw_mab hR (by decide)) (aw_ua hR) (yi hR (by decide) aw_k10)
 unfold zZ
 rw[h1,h2,if_neg (by simp),if_neg (by simp)]
 rw[show(((sh 3 0 0).mul Pq.id).inv.mul Pq.id).mul (Pq.id.inv.mul ((sh 1 0 0).mul Pq.id))=sh (-2) 0 0 by kernel_rfl]
theorem wY (x:Int):nV R x↔x=eo∨x= -1∨x=10∨x=4:=by
 have sb:fH R nB 0=(0,10,true):=by unfold fH;rw[aw_tb hR (by decide)];rfl
 have sc:fH R nC 5=(5,eo,true):=by unfold fH;rw[aw_tc hR (by decide)];rfl
 unfold nV
 constructor
 ·rintro(h | ⟨q,hq,h⟩)
  ·exact .inl h
  ·rcases(l9 hR).1 hq with rfl | rfl
   ·simp only[sb]at h
    rcases h with⟨h,_⟩ | h | ⟨_,h⟩
    ·exact absurd h (by decide)
    ·exact .inr (.inl h)
    ·exact .inr (.inr (.inl h))
   ·simp only[sc]at h
    rcases h with⟨h,_⟩ | h | ⟨_,h⟩
    ·exact absurd h (by decide)
    ·exact .inr (.inr (.inr h))
    ·exact .inl h
 ·rintro(h | h | h | h)
  ·exact .inl h
  ·exact .inr ⟨_,(l9 hR).2 (.inl rfl),.inr (.inl h)⟩
  ·exact .inr ⟨_,(l9 hR).2 (.inl rfl),.inr (.inr (by simp only[sb];exact⟨trivial,h⟩))⟩
  ·exact .inr ⟨_,(l9 hR).2 (.inr rfl),.inr (.inl h)⟩
theorem aw_lat1 {n e:Int} (h:uE R nC nB n e):n=10∧e=0:=by
 have m10:nV R 10:=(wY hR 10).2 (.inr (.inr (.inl rfl)))
 rcases h with⟨h,_⟩ | ⟨_,⟨he,h0,h1,h2,h3⟩ | ⟨_,_,h3⟩⟩
 ·exact absurd ⟨uG hR,uH hR⟩ h
 ·have h4:=h3 10 m10 (by decide) (aw_f5 hR)
  rcases(wY hR n).1 h1 with rfl | rfl | rfl | rfl
  ·rw[aw_f6 hR]at h2;cases h2
  ·omega
  ·exact⟨rfl,he⟩
  ·omega
 ·exact absurd (aw_f5 hR) (h3 10 m10 (by decide))
theorem aw_lat2 {n e:Int} (h:uE R nA nC n e):n=1099511627776∧e=0:=by
 have mx:nV R eo:=.inl rfl
 rcases h with⟨h,_⟩ | ⟨_,⟨he,h0,h1,h2,h3⟩ | ⟨_,_,h3⟩⟩
 ·exact absurd ⟨uH hR,yf hR⟩ h
 ·have h4:=h3 eo mx (by decide) (aw_f7 hR)
  refine⟨?_,he⟩
  unfold eo at h4
  rcases(wY hR n).1 h1 with rfl | rfl | rfl | rfl
  ·rfl
  ·omega
  ·omega
  ·omega
 ·exact absurd (aw_f7 hR) (h3 eo mx (by decide))
theorem aw_path:yc R 5 nB nC=[nB,nA,nC]:=by
 unfold yc
 rw[pV hR (by decide),aw_ba hR (by decide),aw_ca hR (by decide)];rfl
end
end
def uL (x y z:Int):List Fq:=[(Fq.ofInt x),(Fq.ofInt y),(Fq.ofInt z)]
theorem q_rOfK {w:World} (x y z:Int) (hx: -100000≤x∧x≤100000) (hy: -100000≤y∧y≤100000) (hz: -100000≤z∧z≤100000):
  Calls Tryz.prog 64 #[.int .i64 x,.int .i64 y,.int .i64 z] w fun e w'=>ff w (Vq.of x y z) e w':=by
 refine(gF (ρ:=frs (uL x y z)++([.val (.int .i64 x),.val (.int .i64 y),.val (.int .i64 z)]:List Vp)) (w:=w) (fuel:=300) (args:=[.one (.ref 9),.one (.ref 10),.one (.ref 11)]) (vs:=[.int .i64 x,.int .i64 y,.int .i64 z]) (r:=.v (row [0,1,2])) (lo:=[]) (obs:=[])
  (ae (sx (k:=0) (u:=x) (az (n:=9) rfl) rfl (by omega) (by omega)) (ae (sx (k:=1) (u:=y) (az (n:=10) rfl) rfl (by omega) (by omega)) (ae (sx (k:=2) (u:=z) (az (n:=11) rfl) rfl (by omega) (by omega)) ai)))
  aj (by kernel_rfl) Tryz.func64 (by kernel_rfl) aR ⟨aF (n:=9) rfl (dk (by decide)),⟨aF (n:=10) rfl (dk (by decide)),⟨aF (n:=11) rfl (dk (by decide)),trivial⟩⟩⟩).mono ?_
 rintro e w' ⟨v,rfl,h1,h2⟩
 exact⟨v,rfl,(ah (xs:=uL x y z) (ks:=[0,1,2]) (vs:=[(Fq.ofInt x),(Fq.ofInt y),(Fq.ofInt z)]) ⟨rfl,rfl,rfl,trivial⟩).1 h1,h2⟩
theorem I_rOfK {xs:List Fq} {ys:Rho} {kr:List Nat} {l l' l'':Leaf} {x y z:Int} (h1:KI (frs xs++ys) l .i64 x) (h2:KI (frs xs++ys) l' .i64 y) (h3:KI (frs xs++ys) l'' .i64 z) (ar:AtL xs kr (Vq.of x y z).cs) (hx: -100000≤x∧x≤100000) (hy: -100000≤y∧y≤100000) (hz: -100000≤z∧z≤100000):OkI xs ys ⟨64,[.one l,.one l',.one l''],.v (row kr)⟩:=
 ⟨aA Tryz.func64 rfl rfl,fun B w vs hB hv=>by
  match vs,hv with
  | [v0,v1,v2],hv=>
   have e0:=h1 _ _ _ hv.1
   have e1:=h2 _ _ _ hv.2.1
   have e2:=h3 _ _ _ hv.2.2.1
   subst e0;subst e1;subst e2
   refine(q_rOfK x y z hx hy hz).mono ?_
   rintro e w' ⟨v,rfl,h3,h4⟩
   exact⟨v,rfl,(ah ar).2 h3,h4⟩⟩
def qX (x y z:Int):List Fq:=(Pq.id.cs++([(Vq.of x y z).x,(Vq.of x y z).y,(Vq.of x y z).z]))
theorem oA {w:World} (x y z:Int) (hx: -100000≤x∧x≤100000) (hy: -100000≤y∧y≤100000) (hz: -100000≤z∧z≤100000):
  Calls Tryz.prog 114 #[.int .i64 x,.int .i64 y,.int .i64 z] w fun e w'=>lJ w (sh x y z) e w':=by
 refine(gF (ρ:=frs (qX x y z)++([.val (.int .i64 x),.val (.int .i64 y),.val (.int .i64 z)]:List Vp)) (w:=w) (fuel:=300) (args:=[.one (.ref 30),.one (.ref 31),.one (.ref 32)]) (vs:=[.int .i64 x,.int .i64 y,.int .i64 z]) (r:=.v (row [0,1,2,3,7,8,9])) (lo:=[]) (obs:=[])
  (ae (I_rpId (kr:=[0,1,2,3,4,5,6]) ⟨rfl,rfl,rfl,rfl,rfl,rfl,rfl,trivial⟩) (ae (I_rOfK (kr:=[7,8,9]) (az (n:=30) rfl) (az (n:=31) rfl) (az (n:=32) rfl) ⟨rfl,rfl,rfl,trivial⟩ hx hy hz) ai))
  aj (by kernel_rfl) Tryz.func114 (by kernel_rfl) aR ⟨aF (n:=30) rfl (dk (by decide)),⟨aF (n:=31) rfl (dk (by decide)),⟨aF (n:=32) rfl (dk (by decide)),trivial⟩⟩⟩).mono ?_
 rintro e w' ⟨v,rfl,h1,h2⟩
 exact⟨v,rfl,(ah (xs:=qX x y z) (ks:=[0,1,2,3,7,8,9]) (vs:=(Pq.id.rot.cs++([(Vq.of x y z).x,(Vq.of x y z).y,(Vq.of x y z).z]))) ⟨rfl,rfl,rfl,rfl,rfl,rfl,rfl,trivial⟩).1 h1,h2⟩
section
variable {p:Program} {ρ:Rho} {w0:Ent} {nt:Nat} {C:List Inst} {L:List OIns} {ops:Array Oper} {a:Act} {w:World}
theorem reg_bool {s:MS} {id:Nat} {draw:Bool} {Q:Exit→Act→World→Prop} {x:Nat} (hx:x<100000) (hC:∀i∈C,i.Ok0 p ρ w0) (hO:∀i∈L,i.OkE w0 p ρ) (hm:p.follows .mixedOrders=true)
  (h:(regX p C L nt ops s).bind (fun s'=>bm s' x)=some (.v (.one (.b true)))) (hs:MSt ρ w0 nt s a w) (hQ:∀a' w',a'.tmps.getD x undef= .bool true→a'.defers=[]→w0.kept w'→Q .normal a' w'):(Code.region id ops draw).wp p Q a w:=by
 cases hr:regX p C L nt ops s with
 | none=>rw[hr]at h;cases h
 | some s'=>
  rw[hr]at h
  have h:bm s' x=some (.v (.one (.b true))):=h
  refine oT hC hO hm hr hs (fun a' w' ⟨B,hi,hv,_⟩=>hQ a' w' ?_ hi.dfr hi.below)
  have h2:=hv x _ h
  unfold bA at h2
  rw[if_pos hx]at h2
  obtain⟨u,h3,h4⟩:=h2
  have e:u= .bool true:=h4
  subst e
  simp[h3]
def j8 (ρ:Rho) (B:Blk) (w:World):List (Option AV)→List Value→Prop
 | [],_=>True
 | none::r,_::vs=>j8 ρ B w r vs
 | some c::r,v::vs=>c.holds ρ B w v∧j8 ρ B w r vs
 | _,_=>False
theorem j8.get {B:Blk}:∀ {k:List (Option AV)} {vs:List Value},j8 ρ B w k vs→∀ {x:Nat} {c:AV},k[x]? =some (some c)→∃u,vs[x]? =some u∧c.holds ρ B w u
 | [],_,_,x,c,hx=>by cases hx
 | none::r,v::vs,h,0,c,hx=>by injection hx with hx;cases hx
 | none::r,v::vs,h,x+1,c,hx=>j8.get (k:=r) (vs:=vs) h (x:=x) hx
 | some c'::r,v::vs,h,0,c,hx=>by injection hx with hx;injection hx with hx;subst hx;exact⟨v,rfl,h.1⟩
 | some c'::r,v::vs,h,x+1,c,hx=>j8.get (k:=r) (vs:=vs) h.2 (x:=x) hx
def qe (b0 b1:Nat):Blk:=⟨fun x=>if x=0 then some b0 else if x=1 then some b1 else none,fun _ _=>False⟩
theorem blk2_has {b0 b1 g:Nat} (h:(qe b0 b1).has g):g=b0∨g=b1:=by
 rcases h with⟨x,h⟩ | ⟨k,h⟩
 ·simp only[qe]at h
  split at h
  ·injection h with h;exact .inl h.symm
  ·split at h
   ·injection h with h;exact .inr h.symm
   ·cases h
 ·exact h.elim
theorem aB.at {B:Blk}:∀ {ls:List Leaf} {vs:List Value},aB ρ B w ls vs→∀ {j:Nat} {l:Leaf},ls[j]? =some l→∃u,vs[j]? =some u∧l.holds ρ B w u
 | [],[],_,j,l,hj=>by cases hj
 | l'::ls,v::vs,h,0,l,hj=>by injection hj with hj;subst hj;exact⟨v,rfl,h.1⟩
 | l'::ls,v::vs,h,j+1,l,hj=>aB.at (ls:=ls) (vs:=vs) h.2 (j:=j) hj
theorem mst_two {we:World} {T:TypeId} {b0 b1:Nat} {cs0 cs1:List Value} {l0 l1:List Leaf} {known:List (Option AV)} {ts:List Value} (hne:b0≠b1) (hb:Below we.heap.size we w) (g0:we.heap.size≤b0) (g1:we.heap.size≤b1)
  (h0:w.heap[b0]? =some (.cells cs0.toArray T (0,0))) (h1:w.heap[b1]? =some (.cells cs1.toArray T (0,0))) (n0:∀u∈cs0,noU u) (n1:∀u∈cs1,noU u) (k0:aB ρ (qe b0 b1) w l0 cs0) (k1:aB ρ (qe b0 b1) w l1 cs1)
  (hk:j8 ρ (qe b0 b1) w known ts) (hn:ts.length=nt):MSt ρ (Ent.of we) nt ⟨known++List.replicate (nt - known.length) none,[(T,l0.map some),(T,l1.map some)]⟩ ⟨ts.toArray,[]⟩ w:=by
 have q0:=k0.len
 have q1:=k1.len
 refine⟨qe b0 b1,⟨fun v g hv=> ?_,fun k g h=>h.elim,⟨fun x y g hx hy=> ?_,fun k l g h=>h.elim,fun x k g hx h=>h⟩,⟨hb.os,hb.tape,hb.output,hb.size,fun k hk _=>hb.block k hk⟩,by simpa using hn,rfl,fun x g h=>by simp[Ent.of]at h⟩,fun x c hx=> ?_,fun v hv=> ?_⟩
 ·simp only[qe]at hv
  split at hv
  ·rename_i e;subst e;injection hv with hv;subst hv
   refine⟨.inl g0,cs0.toArray,T,by simp[cI,q0],h0,fun k n hk=> ?_⟩
   have:=List.mem_of_getElem? (show cs0[k]? =some (.int .u32 n)by simpa using hk)
   exact n0 _ this n rfl
  ·split at hv
   ·rename_i e;subst e;injection hv with hv;subst hv
    refine⟨.inl g1,cs1.toArray,T,by simp[cI,q1],h1,fun k n hk=> ?_⟩
    have:=List.mem_of_getElem? (show cs1[k]? =some (.int .u32 n)by simpa using hk)
    exact n1 _ this n rfl
   ·cases hv
 ·simp only[qe]at hx hy
  split at hx
  ·injection hx with hx
   split at hy
   ·omega
   ·split at hy
    ·injection hy with hy;omega
    ·cases hy
  ·split at hx
   ·injection hx with hx
    split at hy
    ·injection hy with hy;omega
    ·split at hy
     ·omega
     ·cases hy
   ·cases hx
 ·unfold bm at hx
  split at hx
  ·rename_i hlt
   unfold bA
   rw[if_pos hlt]
   simp only at hx
   have hx2:(known++List.replicate (nt - known.length) none)[x]? =some (some c):=by
    cases hq:(known++List.replicate (nt - known.length) none)[x]? with
    | none=>rw[hq]at hx;cases hx
    | some o=>rw[hq]at hx;simp only at hx;rw[hx]
   have hx3:known[x]? =some (some c):=by
    by_cases hl:x<known.length
    ·rwa [List.getElem?_append_left hl]at hx2
    ·rw[List.getElem?_append_right (by omega),List.getElem?_replicate]at hx2
     split at hx2
     ·injection hx2 with hx2;cases hx2
     ·cases hx2
   obtain⟨u,h3,h4⟩:=hk.get hx3
   exact⟨u,by simpa using h3,h4⟩
  ·rename_i hlt
   unfold bA
   rw[if_neg hlt]
   match hq:x / 100000 - 1,hx with
   | 0,hx=>
    simp only[List.getElem?_cons_zero,List.getElem?_map]at hx
    cases hl:l0[x % 100000]? with
    | none=>rw[hl]at hx;cases hx
    | some l=>
     rw[hl]at hx
     simp only[Option.map_some,Option.some.injEq]at hx
     subst hx
     obtain⟨u,h3,h4⟩:=k0.at hl
     exact⟨b0,cs0.toArray,T,u,rfl,h0,by simpa using h3,h4⟩
   | 1,hx=>
    simp only[List.getElem?_cons_succ,List.getElem?_cons_zero,List.getElem?_map]at hx
    cases hl:l1[x % 100000]? with
    | none=>rw[hl]at hx;cases hx
    | some l=>
     rw[hl]at hx
     simp only[Option.map_some,Option.some.injEq]at hx
     subst hx
     obtain⟨u,h3,h4⟩:=k1.at hl
     exact⟨b1,cs1.toArray,T,u,rfl,h1,by simpa using h3,h4⟩
   | n+2,hx=>simp at hx
 ·simp only[qe]at hv
  show v<2
  split at hv
  ·omega
  ·split at hv
   ·omega
   ·exact absurd rfl hv
end
theorem yj {xs:List Fq} {ys:Rho} {kr:List Nat} (x y z:Int) (ar:AtL xs kr (sh x y z).cs) (hx: -100000≤x∧x≤100000) (hy: -100000≤y∧y≤100000) (hz: -100000≤z∧z≤100000):OkI xs ys ⟨114,[.one (.i .i64 x),.one (.i .i64 y),.one (.i .i64 z)],.v (row kr)⟩:=
 ⟨aA Tryz.func114 rfl rfl,fun B w vs hB hv=>by
  match vs,hv with
  | [v0,v1,v2],hv=>
   have e0:v0= .int .i64 x:=hv.1
   have e1:v1= .int .i64 y:=hv.2.1
   have e2:v2= .int .i64 z:=hv.2.2.1
   subst e0;subst e1;subst e2
   refine(oA x y z hx hy hz).mono ?_
   rintro e w' ⟨v,rfl,h3,h4⟩
   exact⟨v,rfl,(ah ar).2 h3,h4⟩⟩
theorem I_names {ρ:Rho} {n:Nat} {L:List Nm} (hn:ρ[n]? =some (.row 9 L.length (nmQ L))) (hL:L.length≤1000):Inst.Ok Tryz.prog ρ ⟨62,[.one (.ref n),.one (.ref n)],.v (.one (.b true))⟩:=
 ⟨aA Tryz.func62 rfl rfl,fun B w vs hB hv=>by
  match vs,hv with
  | [v0,v1],hv=>
   obtain⟨s,k1,k2,_⟩:=hv.1
   obtain⟨s',k3,k4,_⟩:=hv.2.1
   rw[hn]at k1 k3
   injection k1 with k1
   injection k3 with k3
   subst k1;subst k3
   refine(q_names2 (yd k2) (yd k4) hL hL).mono ?_
   rintro e w' ⟨rfl,hb⟩
   exact⟨_,rfl,by simp[AV.holds,SV.holds,Leaf.holds],hb⟩⟩
theorem ql_s {ρ:Rho} (c:Nm):∀B w x,(Leaf.s c).holds ρ B w x→(Vp.val (.string c)).p w x∧∀g,¬(Vp.val (.string c)).fp w x g:=fun _ _ _ h=>⟨⟨h,by have h:_=_:=h;subst h;exact fZ⟩,fun _ h=>h⟩
theorem o_bs3 {ρ:Rho} {m:Nat} (a b c:Nm) (hm:ρ[m]? =some (.row 9 3 (nmQ [a,b,c]))):(OIns.mk (.bs 68 3 [0,1,2]) [.one (.s a),.one (.s b),.one (.s c)] (.one (.ref m))).Ok Tryz.prog ρ:=
 tG (m:=m) (ss:=[.one (.s a),.one (.s b),.one (.s c)]) (N:=3) (sz:=1) (z:=[.s ⟨#[]⟩]) (qs:=nmQ [a,b,c]) (ix:=[0,1,2]) (ls:=[.s a,.s b,.s c]) Tryz.underlying68 (by kernel_rfl) (by kernel_rfl) (by decide) (by decide) (by decide) rfl rfl ⟨ql_s a,ql_s b,ql_s c,trivial⟩ hm
section
open Go.RowKit Go.Shelf
open Classical
attribute [local go_sem] Oper.semAt_some
section
variable {n:Nat} {P:Program} {ops:Array Oper} {rest:List Oper} {op:Oper} {a:Act} {w w':World} {v:Value} {Q:Exit→Act→World→Prop}
theorem bK (hgd:op.guard=none) (hr:(execOp a.eval op).run P w= .ok (.value v) w') (h:wpListIn Fence.wide n P ops Q rest (a.put op.dst v) w'):wpListIn Fence.wide n P ops Q (op::rest) a w:=
 wpListIn_plain hgd fun K hK=>by
  unfold Oper.wpIn
  refine⟨fun _ _=>trivial,?_⟩
  show op.uponIn _ _ _ _ _ _ ((execOp a.eval op).run P w)
  rw[hr]
  exact hK _ _ h
theorem aad (hgd:op.guard=none) (ty:TypeId) (x:Operand) (ho:op.op= .load ty x) (b o:Nat) (hx:a.eval x= .pointer (some ⟨b,o,none⟩)) (cs:List Value) (d:TypeDesc) (hc:w.rangeAt b o cs)
  (hu:P.underlying ty=some d) (hd:d.isRow=true) (hi:(P.info? ty).map (·.size)=some cs.length) (h:wpListIn Fence.wide n P ops Q rest (a.put op.dst (.agg cs.toArray)) w):wpListIn Fence.wide n P ops Q (op::rest) a w:=
 bK hgd (by
  unfold execOp
  simp only[ho,hx,Instr.loadAt,Instr.sureAddr,Sem.run_bind,Sem.run_pure,Result.andThen_ok,run_loadVar_mid w b o ty cs d hc hu hd hi]) h
theorem wZ (hgd:op.guard=none) (ty:TypeId) (x y:Operand) (ho:op.op= .store ty x y) (b o:Nat) (cells:Array Value) (hx:a.eval x= .pointer (some ⟨b,o,none⟩)) (hy:a.eval y= .agg cells)
  (ht:w.there b o cells.size) (hi:(P.info? ty).map (·.size)=some cells.size) (h1:cells.all (·.oneCell')=true) (h:wpListIn Fence.wide n P ops Q rest (a.put op.dst undef) (w.setCells b o cells.toList)):wpListIn Fence.wide n P ops Q (op::rest) a w:=
 wpListIn_plain hgd fun K hK=>by
  unfold Oper.wpIn
  refine⟨fun _ _=>trivial,?_⟩
  show op.uponIn _ _ _ _ _ _ ((execOp a.eval op).run P w)
  unfold execOp
  simp only[ho,hx,hy,Instr.storeAt,Instr.sureAddr,Sem.run_bind,Sem.run_pure,Result.andThen_ok,run_storeVar_mid w b o ty cells ht hi h1]
  exact hK _ _ h
theorem pW {v':Value} {s x:Operand} {t:TypeId} (hgd:op.guard=none) (ho:op.op= .call {callee:=.builtin .append,args:=#[s,x],argTypes:=#[t,t]}) {y:Value} (hs:a.eval s=v) (hx:a.eval x=y)
  (hr:(Builtin.append_ #[t,t] op.type #[v,y]).run P w= .ok v' w') (h:wpListIn Fence.wide n P ops Q rest (a.put op.dst v') w'):wpListIn Fence.wide n P ops Q (op::rest) a w:=
 bK hgd (by
  unfold execOp
  simp only[ho,resolve,invoke,builtin,Sem.run_bind,Sem.run_pure,Result.andThen_ok,List.map_toArray,List.map_cons,List.map_nil,hs,hx,hr]) h
end
structure LatB (w W:World) (t:Nat) (tq fr:Nm):Prop where
 b3:Boxed W w.heap.size 24 (ptB t)
 b4:Boxed W (w.heap.size+1) 9 (.string tq)
 b5:Boxed W (w.heap.size+1+1) 9 (.string fr)
 b6:Boxed W (w.heap.size+1+1+1) 3 (.int .i64 0)
 b7:Boxed W (w.heap.size+1+1+1+1) 40 (.int .i64 0)
 bel:Below w.heap.size w W
abbrev latW (w:World) (t:Nat) (tq fr:Nm):World:=((((w.alloc (.cells #[ptB t] 24)).alloc (.cells #[.string tq] 9)).alloc (.cells #[.string fr] 9)).alloc (.cells #[.int .i64 0] 3)).alloc (.cells #[.int .i64 0] 40)
theorem LatB.new (w:World) (t:Nat) (tq fr:Nm):LatB w (latW w t tq fr) t tq fr where
 b3:=((((Boxed.new w _ _).alloc _).alloc _).alloc _).alloc _
 b4:=by have:=(((Boxed.new (w.alloc (.cells #[ptB t] 24)) 9 (.string tq)).alloc (.cells #[.string fr] 9)).alloc (.cells #[.int .i64 0] 3)).alloc (.cells #[.int .i64 0] 40);rw[asz]at this;exact this
 b5:=by have:=((Boxed.new ((w.alloc (.cells #[ptB t] 24)).alloc (.cells #[.string tq] 9)) 9 (.string fr)).alloc (.cells #[.int .i64 0] 3)).alloc (.cells #[.int .i64 0] 40);rw[asz,asz]at this;exact this
 b6:=by have:=(Boxed.new (((w.alloc (.cells #[ptB t] 24)).alloc (.cells #[.string tq] 9)).alloc (.cells #[.string fr] 9)) 3 (.int .i64 0)).alloc (.cells #[.int .i64 0] 40);rw[asz,asz,asz]at this;exact this
 b7:=by have:=Boxed.new ((((w.alloc (.cells #[ptB t] 24)).alloc (.cells #[.string tq] 9)).alloc (.cells #[.string fr] 9)).alloc (.cells #[.int .i64 0] 3)) 40 (.int .i64 0);rw[asz,asz,asz,asz]at this;exact this
 bel:=((((((Below.refl _ w).alloc (Nat.le_refl _) _).alloc (by simp) _).alloc (by simp;omega) _).alloc (by simp;omega) _).alloc (by simp;omega) _)
theorem LatB.kb {w W W':World} {t O:Nat} {tq fr:Nm} (h:LatB w W t tq fr) (k:Kb W.heap.size O W W') (hO:w.heap.size+5≤O):LatB w W' t tq fr:=
 have g:∀ {B:Nat} {T:TypeId} {v:Value},Boxed W B T v→B<w.heap.size+5→Boxed W' B T v:=fun hb hl=>(k.block _ hb.lt (by omega)).trans hb
 ⟨g h.b3 (by omega),g h.b4 (by omega),g h.b5 (by omega),g h.b6 (by omega),g h.b7 (by omega),⟨k.os.trans h.bel.os,k.tape.trans h.bel.tape,k.output.trans h.bel.output,Nat.le_trans h.bel.size k.size,fun i hi=>(k.block i (by have:=h.bel.size;omega) (by omega)).trans (h.bel.block i hi)⟩⟩
theorem LatB.below {w W W':World} {t:Nat} {tq fr:Nm} (h:LatB w W t tq fr) (k:Below W.heap.size W W'):LatB w W' t tq fr:=h.kb (O:=w.heap.size+5) (Kb.below k) (Nat.le_refl _)
theorem LatB.lt {w W:World} {t:Nat} {tq fr:Nm} (h:LatB w W t tq fr):w.heap.size+5≤W.heap.size:=h.b7.lt
theorem LatB.fin {w W:World} {t:Nat} {tq fr:Nm} (h:LatB w W t tq fr) (n c:Int):
  Boxed ((W.setCell ⟨w.heap.size+1+1+1,0,none⟩ (.int .i64 n)).setCell ⟨w.heap.size+1+1+1+1,0,none⟩ (.int .i64 c)) (w.heap.size+1+1+1) 3 (.int .i64 n)∧
  Boxed ((W.setCell ⟨w.heap.size+1+1+1,0,none⟩ (.int .i64 n)).setCell ⟨w.heap.size+1+1+1+1,0,none⟩ (.int .i64 c)) (w.heap.size+1+1+1+1) 40 (.int .i64 c)∧
  Below w.heap.size w ((W.setCell ⟨w.heap.size+1+1+1,0,none⟩ (.int .i64 n)).setCell ⟨w.heap.size+1+1+1+1,0,none⟩ (.int .i64 c)):=
 ⟨(h.b6.set _).other (by omega) _,(h.b7.other (by omega) _).set _,(h.bel.setCell (p:=⟨w.heap.size+1+1+1,0,none⟩) (by show w.heap.size≤w.heap.size+1+1+1;omega) _).setCell (p:=⟨w.heap.size+1+1+1+1,0,none⟩) (by show w.heap.size≤w.heap.size+1+1+1+1;omega) _⟩
theorem int_new (w:World) (x:Int):gR (w.alloc (.cells #[.int .i64 x] 3)) w.heap.size (.slice (some ⟨w.heap.size,0,none⟩) 1 1) [x]:=
 ⟨rfl,.inr ⟨w.heap.size,1,_,rfl,Nat.le_refl _,heap_alloc_new w _,Nat.le_refl _,by unfold maxLen;omega,rfl,rfl⟩⟩
theorem lnk_at {w:World} {ad:Option Addr} {n cap:Nat} {l:List (Nm×Lk)} (h:fT w (.slice ad n cap) l) (hn:n=l.length) {i:Nat} {q:Nm×Lk} (hq:l[i]? =some q):∃g,ad=some ⟨g,0,none⟩∧g<w.heap.size∧w.rangeAt g (i*4) (dL q):=by
 subst hn
 have hc:∀j u,(dL q)[j]? =some u→∃g,ad=some ⟨g,0,none⟩∧w.cell? ⟨g,i*4+j,none⟩=some u:=fun j u hu=>jj h.1 (by rw[flat4 hq (by have:=(List.getElem?_eq_some_iff.1 hu).1;exact this)];exact hu)
 obtain⟨g,hg,_⟩:=hc 0 _ rfl
 refine⟨g,hg,(cE h.1 (g:=g) (by rw[hg];rfl)).2,fun j u hu=> ?_⟩
 obtain⟨g',hg',h2⟩:=hc j u hu
 rw[hg]at hg';injection hg' with hg';injection hg' with hg';subst hg'
 exact h2
def okZ (R:Tr) (tq fr:Nm) (z:Int):Prop:=0≤z∧(bd R z tq fr).2=0
theorem rr_get {n j:Nat} (h:j<n):(List.range n).reverse[n - 1 - j]? =some j:=by
 rw[List.getElem?_reverse (by simp;omega),List.length_range,List.getElem?_range (by omega)]
 congr 1;omega
theorem rr_pre {n i:Nat} {pre:List Nat} (h:pre++ [i] <+:(List.range n).reverse):i<n∧∀j,i<j→j<n→j∈pre:=by
 obtain⟨tl,h⟩:=h
 have hl:=congrArg List.length h
 simp only[List.length_append,List.length_reverse,List.length_range,List.length_cons,List.length_nil]at hl
 have h1:(pre++ [i]++tl)[pre.length]? =some i:=by simp
 rw[h]at h1
 have h2:=rr_get (n:=n) (j:=n - 1 - pre.length) (by omega)
 rw[show n - 1 - (n - 1 - pre.length)=pre.length by omega,h1]at h2
 injection h2 with h2
 refine⟨by omega,fun j h3 h4=> ?_⟩
 have h5:=rr_get h4
 rw[←h,List.append_assoc,List.getElem?_append_left (by omega)]at h5
 exact List.mem_of_getElem? h5
section
variable {R:Tr} {tq fr:Nm} {xs:List Int}
theorem lat_ix {zs:List Int} {x:Int} (h:x∈zs):∃j,j<zs.length∧zs.getD j 0=x:=by
 obtain⟨j,hj,e⟩:=List.getElem_of_mem h
 exact⟨j,hj,by rw[List.getD_eq_getElem?_getD,List.getElem?_eq_getElem hj];exact e⟩
theorem lat_stop (hk:aO R fr∧aO R tq) (hm:∀x,x∈xs↔nV R x) {pre:List Nat} {i:Nat} (hp:pre++ [i] <+:(List.range (Lib.compact (srt xs)).length).reverse) (hno:∀u∈pre,¬okZ R tq fr ((Lib.compact (srt xs)).getD u 0)) (hok:okZ R tq fr ((Lib.compact (srt xs)).getD i 0)):uE R tq fr ((Lib.compact (srt xs)).getD i 0) 0:=by
 obtain⟨h1,h2⟩:=rr_pre hp
 have hx:=cs_asc xs
 have hmem:=fun x=>(cs_mem xs x).trans (hm x)
 generalize Lib.compact (srt xs)=zs at *
 refine .inr ⟨hk,.inl ⟨rfl,hok.1,(hmem _).1 ?_,hok.2,fun x hx1 h0 hc=> ?_⟩⟩
 ·rw[List.getD_eq_getElem?_getD,List.getElem?_eq_getElem h1];exact List.getElem_mem h1
 ·obtain⟨j,hj,rfl⟩:=lat_ix ((hmem x).2 hx1)
  rcases Nat.lt_trichotomy i j with h | h | h
  ·exact absurd ⟨h0,hc⟩ (hno j (h2 j h hj))
  ·subst h;exact Int.le_refl _
  ·have:=List.pairwise_iff_getElem.1 hx j i hj h1 h
   rw[List.getD_eq_getElem?_getD,List.getElem?_eq_getElem hj,List.getD_eq_getElem?_getD,List.getElem?_eq_getElem h1]
   exact this
theorem lat_done (hk:aO R fr∧aO R tq) (hm:∀x,x∈xs↔nV R x) (hno:∀u∈(List.range (Lib.compact (srt xs)).length).reverse,¬okZ R tq fr ((Lib.compact (srt xs)).getD u 0)):uE R tq fr 0 17:=by
 have hmem:=fun x=>(cs_mem xs x).trans (hm x)
 generalize Lib.compact (srt xs)=zs at *
 refine .inr ⟨hk,.inr ⟨rfl,rfl,fun x hx1 h0 hc=> ?_⟩⟩
 obtain⟨j,hj,rfl⟩:=lat_ix ((hmem x).2 hx1)
 exact hno j (by simp;exact hj) ⟨h0,hc⟩
end
end
section
open Go.RowKit Go.Shelf
open Classical
attribute [local go_sem] Oper.semAt_some
set_option maxRecDepth 100000 in
set_option maxHeartbeats 4000000 in
theorem uM {w:World} {t m:Nat} {E:List Ch} {tq fr:Nm} (hT:TM w t m E) (hE:Sane (trE E)):
  Calls Tryz.prog 50 #[ptB t,.string tq,.string fr] w fun e w'=>∃n c,e= .returned (.tuple #[.int .i64 n,.int .i64 c])∧uE (trE E) tq fr n c∧Below w.heap.size w w':=by
 refine(callsIn_wide (n:=3)).1 ?_
 have h3:(1:Nat)≤3:=by decide
 have hb1:=LatB.new w t tq fr
 obtain⟨W1,hW1⟩:∃W1,latW w t tq fr=W1:=⟨_,rfl⟩
 rw[hW1]at hb1
 have HT:=Lib.hid (show∀wq,Below w.heap.size w wq→TM wq t m E from fun wq k=>hT.below k)
 have hk1:=lZ (HT.out W1 hb1.bel) hE tq
 have HK2:=Lib.hid (show∀wq,Below w.heap.size w wq→Calls Tryz.prog 108 #[ptB t,.string fr] wq fun e w'=>e= .returned (.bool (decide (aO (trE E) fr)))∧Below wq.heap.size wq w' from fun wq k=>lZ (HT.out wq k) hE fr)
 have HE:=Lib.hid hE
 have HTM:=Lib.hid hT
 have HB1:=Lib.hid hb1
 have c3:=hb1.b3.cell
 have c4:=hb1.b4.cell
 clear hT hE hb1
 refine callsIn_of_wp_marks Tryz.func50 rfl trivial ?_ rfl
 simp only[Tryz.ntmps50,List.size_toArray,List.length_cons,List.length_nil,Nat.reduceAdd,Nat.reduceSub,Array.replicate_succ,Array.replicate_zero,List.push_toArray,List.append_toArray,List.nil_append,List.cons_append]
 gi_upto_region 1 with(fail)
 try rw[show((((w.alloc (.cells #[ptB t] 24)).alloc (.cells #[.string tq] 9)).alloc (.cells #[.string fr] 9)).alloc (.cells #[.int .i64 0] 3)).alloc (.cells #[.int .i64 0] 40)=W1 from hW1]
 clear hW1
 have HNO:=Lib.hid (show¬(aO (trE E) fr∧aO (trE E) tq)→uE (trE E) tq fr 0 6 from fun h=>.inl ⟨h,rfl,rfl⟩)
 by_cases ky:aO (trE E) tq
 ·rw[decide_eq_true ky]at hk1
  by_cases kx:aO (trE E) fr
  ·rw[decide_eq_true kx]at HK2
   have HKK:=Lib.hid (And.intro kx ky)
   clear kx ky HNO
   gi_upto_region 3 with(first
    | (refine⟨trivial,?_⟩;gi_at_call 108;refine(callsIn_wide.2 hk1).mono ?_;clear hk1;rintro e w2 ⟨rfl,hb⟩;have hb2:=HB1.out.below hb;have d3:=hb2.b3.cell;have d5:=hb2.b5.cell;have HB2:=Lib.hid hb2;have hk2:=HK2.out w2 hb2.bel;clear hb hb2)
    | (refine⟨trivial,?_⟩;gi_at_call 108;refine(callsIn_wide.2 hk2).mono ?_;clear hk2;rintro e w3 ⟨rfl,hb⟩;have HB3:=Lib.hid (HB2.out.below hb);clear hb))
   clear c3 c4 d3 d5 HB1 HB2 HK2
   gi_upto_region 4 with(fail)
   obtain⟨W4,hW4⟩:∃W4,w3.alloc (.cells #[.int .i64 1099511627776] 3)=W4:=⟨_,rfl⟩
   try rw[hW4]
   have hint:=int_new w3 1099511627776
   have hg3:=HB3.out.lt
   have hb4:=HB3.out.below (W':=W4) (by rw[←hW4];exact(Below.refl _ _).alloc (Nat.le_refl _) _)
   have hs4:W4.heap.size=w3.heap.size+1:=by rw[←hW4];exact asz _ _
   have hn8:w3.heap.size∉fpT t m E:=fun hm=>by have:=HTM.out.lt _ hm;omega
   have hX8:bF W4 w3.heap.size:=.mk' (show W4.heap[w3.heap.size]? =some (.cells #[.int .i64 1099511627776] 3 (0,0))by rw[←hW4];exact heap_alloc_new _ _) (fun k n hk=>by cases k<;>simp at hk)
   rw[hW4]at hint
   have hli:=(q_Links (HT.out W4 hb4.bel) HE.out).mono (show∀e w',_→∃ad nl cap,∃LR:List (Nm×Lk),e= .returned (.slice ad nl cap)∧Hid (fT w' (.slice ad nl cap) LR∧nl=LR.length∧(∀q,q∈LR↔q∈trE E)∧nl≤2000∧(∀g,ad=some ⟨g,0,none⟩→W4.heap.size≤g)∧Below W4.heap.size W4 w')from by
    rintro e w' ⟨v,L,rfl,h1,h2,_,_,h5,h6⟩
    obtain⟨ad,cap,rfl⟩:=ft h1.1
    have h7:=m8 HE.out.sm (L:=L)
    have h8:=E_len HTM.out HE.out.sm
    have h9:=h2.length_eq
    rw[List.length_map]at h9
    exact⟨ad,_,cap,_,rfl,Lib.hid ⟨h1,rfl,aac (fun q hq=>by
     obtain⟨ch,hch,ln,hln,e⟩:=cC.1 hq
     subst e
     exact(h2.mem_iff).2 (List.mem_map.2 ⟨ch,hch,rfl⟩)),by omega,fun g hg=>h5 g (by rw[hg];rfl),h6⟩⟩)
   have c3:=hb4.b3.cell
   have HB4:=Lib.hid hb4
   obtain⟨g8,hg8⟩:∃g,w3.heap.size=g:=⟨_,rfl⟩
   rw[hg8]at hint hs4 hn8 hX8 hg3
   have HINT:=Lib.hid hint
   have HX8:=Lib.hid (And.intro hn8 hX8)
   clear hW4 hint hb4 hn8 hX8 HB3
   gi_upto_region 5 with(refine⟨trivial,?_⟩;gi_at_call 35;refine(callsIn_wide.2 hli).mono ?_;clear hli;rintro e W5 ⟨adl,nl,cpl,LR,rfl,HL⟩)
   have hb45:=HL.out.2.2.2.2.2
   have hb5:=HB4.out.below hb45
   have HB5:=Lib.hid hb5
   have HLR:=Lib.hid (show∀(i:Nat) (q:Nm×Lk),LR[i]? =some q→∃g,adl=some ⟨g,0,none⟩∧W4.heap.size≤g∧g<W5.heap.size∧W5.rangeAt g (i*4) (dL q)from fun i q hq=>by
    obtain⟨g,h1,h2,h3⟩:=lnk_at HL.out.1 HL.out.2.1 hq
    exact⟨g,h1,HL.out.2.2.2.2.1 g h1,h2,h3⟩)
   have HES:=Lib.hid (show EndS W5 W5 g8 (.slice (some ⟨g8,0,none⟩) 1 1) (di (trE E) (LR.take 0))from⟨dH HINT.out (fun g hg=>hb45.block g (cE HINT.out hg).2),Kb.refl _ _ _,fun k hk=>.inr (by injection hk with hk;exact hk.symm)⟩)
   have HTW:=Lib.hid (show∀wq,Kb W5.heap.size g8 W5 wq→TM wq t m E from fun wq k=>k.tm (HT.out W5 hb5.bel) HX8.out.1 (HX8.out.2.blk (hb45.block g8 (by omega)) hb45.size))
   have hnl:=HL.out.2.2.2.1
   have hnl2:(nl:Int)≤2000:=by omega
   have hg5:g8<W5.heap.size:=by have:=hb45.size;omega
   have HLM:=Lib.hid (And.intro HL.out.2.1 HL.out.2.2.1)
   clear hb45 hb5 HL HB4 HINT HX8 HT c3
   gi_loopw [8,34] (fun s8 s34 wr=>∃k:Nat,k≤nl∧s34= .int .i64 (k:Int)∧Hid (EndS W5 wr g8 s8 (di (trE E) (LR.take k)))) (fun _ s34 _=>nl - (intOf s34).toNat)
   case atStart=>exact⟨0,Nat.zero_le _,rfl,HES⟩
   case round=>
    clear HES
    obtain⟨k,hk,rfl,HS⟩:=hrel
    rcases Nat.lt_or_ge k nl with hlt | hge
    ·obtain⟨q,hq⟩:∃q,LR[k]? =some q:=⟨_,List.getElem?_eq_getElem (by rw[←HLM.out.1];exact hlt)⟩
     obtain⟨g,rfl,hgg,hgl,hrg0⟩:=HLR.out k q hq
     have hrg:wr.rangeAt g (k*4) (dL q):=fun j u hu=>by rw[HS.out.kb.cell hgl (by omega)];exact hrg0 j u hu
     have hqm:=(HLM.out.2 q).1 (List.mem_of_getElem? hq)
     have htm:=HE.out.ok.tm q hqm
     have hxl:(di (trE E) (LR.take k)).length≤7000:=by
      have:=m9 (trE E) (LR.take k)
      rw[List.length_take]at this;omega
     have HNX:=Lib.hid (show di (trE E) (LR.take (k+1))=di (trE E) (LR.take k)++uD (trE E) q by rw[List.take_add_one,hq];exact wX _ _ _)
     have HRG:=Lib.hid hrg
     have HQM:=Lib.hid hqm
     have hlt':(k:Int)<(nl:Int):=by omega
     obtain⟨xs,hxs⟩:∃xs,di (trE E) (LR.take k)=xs:=⟨_,rfl⟩
     rw[hxs]at HS HNX hxl
     clear hq hrg hrg0 hqm hgg hgl hxs
     gi_upto_region 6 with(fail)
     refine wpIn_region_list ?_
     refine bK rfl (v:=.pointer (some ⟨g,k*4,none⟩)) (w':=wr) (by go_simp) ?_
     refine aad rfl _ _ rfl g (k*4) rfl (dL q) _ HRG.out Tryz.underlying76 rfl (by kernel_rfl) ?_
     refine bK rfl (v:=.pointer (some ⟨wr.heap.size,0,none⟩)) (w':=wr.alloc (.cells #[.string ⟨#[]⟩,.string ⟨#[]⟩,.int .i64 0,.int .i64 0] 76)) (by go_simp;try rfl) ?_
     refine wZ rfl _ _ _ rfl wr.heap.size 0 (dL q).toArray rfl rfl (lk_there wr q) (by kernel_rfl) (all_oneCell_toArray (fun u hu=>(pP u hu).1)) ?_
     have hrd:=RdS.start q HS.out
     change wpListIn _ _ _ _ _ _ _ (lkW wr q)
     generalize lkW wr q=W6 at *
     obtain⟨Bl,hBl⟩:∃B,wr.heap.size=B:=⟨_,rfl⟩
     rw[hBl]at hrd⊢
     obtain⟨f0,f2,f3⟩:=hrd.c0
     have hle:g8≤W6.heap.size:=by have:=hrd.es.kb.size;omega
     have HR:=Lib.hid hrd
     clear HS HRG hBl hrd
     have hw1:IntKind.i64.wrap (q.2.un - 1)=q.2.un - 1:=by rw[IntKind.wrap_i64];unfold eo at htm;omega
     have hw2:IntKind.i64.wrap (q.2.fr - 1)=q.2.fr - 1:=by rw[IntKind.wrap_i64];unfold eo at htm;omega
     clear htm
     have HEQ:=Lib.hid (show uD (trE E) q=(if 0≤q.2.un then [q.2.un - 1]else [])++ [q.2.fr - 1]++(if (fH (trE E) q.1 q.2.fr).2.2=true then [(fH (trE E) q.1 q.2.fr).2.1]else [])from rfl)
     have HSP:=Lib.hid (show∀wq,Kb W5.heap.size g8 W5 wq→Calls Tryz.prog 43 #[ptB t,.string q.1,.int .i64 q.2.fr] wq fun e w'=>e= .returned (ya (fH (trE E) q.1 q.2.fr))∧Below wq.heap.size wq w' from fun wq k=>q_Span (HTW.out wq k) HE.out.ok q.1 q.2.fr)
     obtain⟨un,hun⟩:∃u,q.2.un=u:=⟨_,rfl⟩
     obtain⟨fq,hfq⟩:∃u,q.2.fr=u:=⟨_,rfl⟩
     obtain⟨cn,hcn⟩:∃u,q.1=u:=⟨_,rfl⟩
     obtain⟨sp,hsp⟩:∃s,fH (trE E) q.1 q.2.fr=s:=⟨_,rfl⟩
     rw[hsp,hun,hfq]at HEQ
     rw[hsp,hcn,hfq]at HSP
     rw[hun]at f3 hw1
     rw[hfq]at f2 hw2
     rw[hcn]at f0
     have HC:=Lib.hid (show∀wq v ys,RdS W5 wq g8 Bl v ys q→wq.cell? ⟨Bl,0,none⟩=some (.string cn)∧wq.cell? ⟨Bl,2,none⟩=some (.int .i64 fq)∧wq.cell? ⟨w.heap.size,0,none⟩=some (ptB t)∧g8≤wq.heap.size from fun wq v ys hr=>by
      have:=hr.c0
      rw[hcn,hfq]at this
      exact⟨this.1,this.2.1,(HB5.out.kb hr.es.kb hg3).b3.cell,by have:=hr.es.kb.size;omega⟩)
     clear hun hfq hcn hsp
     obtain⟨s1,s2,s3⟩:=sp
     gi_upto_if 40 with(fail)
     gi_cut [8,40]from 86 (fun s8 _ wc=>∃ys,Hid (ys=xs++(if 0≤un then [un - 1]else []))∧Hid (RdS W5 wc g8 Bl s8 ys q))
     case first=>
      by_cases hu:0≤un
      ·have HU:=Lib.hid hu
       gi_upto_region 8 with(fail)
       obtain⟨v8,W8,hrun,hrd8⟩:=HR.out.app (ty:=171) (un - 1) hle (by omega)
       have HR8:=Lib.hid hrd8
       have HRUN:=Lib.hid hrun
       clear hrun hrd8
       refine wpIn_region_list ?_
       refine bK rfl (v:=u8) (w':=W6) (by rfl) ?_
       refine bK rfl (v:=.pointer (some ⟨Bl,3,none⟩)) (w':=W6) (by go_simp) ?_
       refine bK rfl (v:=.int .i64 un) (w':=W6) (by go_simp) ?_
       refine bK rfl (v:=.int .i64 (un - 1)) (w':=W6) (by go_simp) ?_
       refine bK rfl (v:=.slice (some ⟨W6.heap.size,0,none⟩) 1 1) (w':=W6.alloc (.cells #[.int .i64 (un - 1)] 3)) (by go_simp) ?_
       refine pW rfl rfl rfl rfl HRUN.out ?_
       clear HRUN HR
       gi_wp2
       gi_meet
       case rel=>exact⟨_,Lib.hid (by have:=HU.out;rw[if_pos (by omega)]),HR8⟩
      ·have HU:=Lib.hid hu
       gi_wp2
       gi_meet
       case rel=>exact⟨_,Lib.hid (by have:=HU.out;rw[if_neg (by omega),List.append_nil]),HR⟩
     case rest=>
      obtain⟨ys,HY,HR1⟩:=hcut
      clear f0 f2 f3 hw1 HR hle
      obtain⟨f0,f2,c3,hle⟩:=HC.out _ _ _ HR1.out
      have hyl:ys.length≤7001:=by
       rw[HY.out,List.length_append]
       split<;>simp<;>omega
      gi_upto_region 9 with(fail)
      obtain⟨v9,W9,hrun,hrd9⟩:=HR1.out.app (ty:=171) (fq - 1) hle (by omega)
      have HR9:=Lib.hid hrd9
      have HRUN:=Lib.hid hrun
      clear hrun hrd9
      refine wpIn_region_list ?_
      refine bK rfl (v:=u8) (w':=wc) (by rfl) ?_
      refine bK rfl (v:=.pointer (some ⟨Bl,2,none⟩)) (w':=wc) (by go_simp) ?_
      refine bK rfl (v:=.int .i64 fq) (w':=wc) (by go_simp) ?_
      refine bK rfl (v:=.int .i64 (fq - 1)) (w':=wc) (by go_simp) ?_
      refine bK rfl (v:=.slice (some ⟨wc.heap.size,0,none⟩) 1 1) (w':=wc.alloc (.cells #[.int .i64 (fq - 1)] 3)) (by go_simp) ?_
      refine pW rfl rfl rfl rfl HRUN.out ?_
      clear HRUN HR1 f0 f2 c3 hle
      obtain⟨f0,f2,c3,hle⟩:=HC.out _ _ _ HR9.out
      have hsp9:=HSP.out W9 HR9.out.es.kb
      have hw3:IntKind.i64.wrap ((k:Int)+1)=(k:Int)+1:=by rw[IntKind.wrap_i64];omega
      cases s3 with
      | false=>
       have HX:=Lib.hid (show di (trE E) (LR.take (k+1))=ys++ [fq - 1]by rw[HNX.out,HEQ.out,HY.out];simp)
       gi_wp2_with (refine⟨trivial,?_⟩;gi_at_call 43;refine(callsIn_wide.2 hsp9).mono ?_;clear hsp9;rintro e W10 ⟨rfl,hb⟩;have HR10:=Lib.hid (HR9.out.below hb);clear hb)
       go_roundw
       case rel=>exact⟨k+1,by omega,by go_num,Lib.hid (by rw[HX.out];exact HR10.out.es)⟩
       case measure=>simp[intOf];omega
      | true=>
       have HX:=Lib.hid (show di (trE E) (LR.take (k+1))=ys++ [fq - 1]++ [s2]by rw[HNX.out,HEQ.out,HY.out];simp)
       gi_upto_region 12 with(refine⟨trivial,?_⟩;gi_at_call 43;refine(callsIn_wide.2 hsp9).mono ?_;clear hsp9;rintro e W10 ⟨rfl,hb⟩;have HR10:=Lib.hid (HR9.out.below hb);clear hb)
       obtain⟨v12,W12,hrun,hrd12⟩:=HR10.out.app (ty:=171) s2 (HC.out _ _ _ HR10.out).2.2.2 (by rw[List.length_append];simp;omega)
       have HR12:=Lib.hid hrd12
       have HRUN:=Lib.hid hrun
       clear hrun hrd12
       refine wpIn_region_list ?_
       refine bK rfl (v:=v9) (w':=W10) (by rfl) ?_
       refine bK rfl (v:=.int .i64 s2) (w':=W10) (by rfl) ?_
       refine bK rfl (v:=.slice (some ⟨W10.heap.size,0,none⟩) 1 1) (w':=W10.alloc (.cells #[.int .i64 s2] 3)) (by go_simp) ?_
       refine pW rfl rfl rfl rfl HRUN.out ?_
       clear HRUN HR9 HR10
       gi_wp2
       go_roundw
       case rel=>exact⟨k+1,by omega,by go_num,Lib.hid (by rw[HX.out];exact HR12.out.es)⟩
       case measure=>simp[intOf];omega
    ·obtain rfl:k=nl:=by omega
     have HM:=Lib.hid (show∀x,x∈di (trE E) (LR.take k)↔nV (trE E) x from fun x=>by rw[HLM.out.1,List.take_length];exact aab HLM.out.2 x)
     have hxl:(di (trE E) (LR.take k)).length≤7000:=by
      have:=m9 (trE E) (LR.take k)
      rw[List.length_take]at this;omega
     have hx0:(di (trE E) (LR.take k))≠ []:=by unfold di;simp
     generalize di (trE E) (LR.take k)=xs at *
     have hnn:u8≠ .slice none 0 0:=fun e=>by
      have:=HS.out.row.1
      rcases HS.out.row.2 with⟨_,h⟩ | ⟨g,cap,cur,h,_⟩
      ·exact hx0 (List.eq_nil_of_length_eq_zero h)
      ·rw[e]at h;cases h
     have hso:=q_SortI HS.out.row hnn (by omega)
     have hl2:(srt xs).length=xs.length:=List.length_mergeSort xs
     have hco:∀w14,gR w14 g8 u8 (srt xs)→EndS W5 w14 g8 u8 (srt xs)→Calls Tryz.prog 111 #[u8] w14 fun e w'=>∃g cap,e= .returned (.slice (some ⟨g,0,none⟩) (Lib.compact (srt xs)).length cap)∧Hid (EndS W5 w' g8 (.slice (some ⟨g,0,none⟩) (Lib.compact (srt xs)).length cap) (Lib.compact (srt xs))):=fun w14 h1 h2=>(wV h1 hnn (by omega)).mono (by
      rintro e w' ⟨v',rfl,k1,k2,k3,k4⟩
      obtain⟨ad,cap,rfl⟩:=ft k1
      rcases id k1.2 with⟨e,_⟩ | ⟨g,cap',cur,e,_⟩
      ·exact absurd e k3
      ·injection e with e1 _ _
       subst e1
       exact⟨g,cap,rfl,Lib.hid (h2.grown k4 k1 (.inl k2))⟩)
     have hbk:=fun W g c=>wW W (some ⟨g,0,none⟩) (Lib.compact (srt xs)).length c
     have HCO:=Lib.hid hco
     clear hk hge HLR HLM hnl2 hnl hx0 hnn hco
     gi_wp2_with (first
      | (refine⟨trivial,?_⟩;gi_at_call 109;refine(callsIn_wide.2 hso).mono ?_;clear hso;rintro e w14 ⟨rfl,hi,hg⟩;have hes:=HS.out.grown hg hi (.inl rfl);have HS14:=Lib.hid hes;have hco:=HCO.out w14 hi hes;clear hi hg hes HS)
      | (refine⟨trivial,?_⟩;gi_at_call 111;refine(callsIn_wide.2 hco).mono ?_;clear hco;rintro e W15 ⟨g,cap,rfl,HS15⟩;clear HS14)
      | (refine⟨trivial,?_⟩;gi_at_call 110;refine(callsIn_wide.2 (hbk _ _ _)).mono ?_;clear hbk;rintro e w' ⟨rfl,rfl⟩))
     have HZS:=Lib.hid (show∀(pre:List Nat) (i:Nat),pre++ [i] <+:(List.range (Lib.compact (srt xs)).length).reverse→(∀u∈pre,¬okZ (trE E) tq fr ((Lib.compact (srt xs)).getD u 0))→okZ (trE E) tq fr ((Lib.compact (srt xs)).getD i 0)→uE (trE E) tq fr ((Lib.compact (srt xs)).getD i 0) 0 from fun pre i=>lat_stop HKK.out HM.out)
     have HZD:=Lib.hid (show(∀u∈(List.range (Lib.compact (srt xs)).length).reverse,¬okZ (trE E) tq fr ((Lib.compact (srt xs)).getD u 0))→uE (trE E) tq fr 0 17 from lat_done HKK.out HM.out)
     have hzl:(Lib.compact (srt xs)).length≤7000:=Nat.le_trans (cs_len xs) hxl
     generalize hzs:Lib.compact (srt xs)=zs at *
     have hE15:=HS15.out
     have hB15:=HB5.out.kb hE15.kb hg3
     have hg:=cE hE15.row (g:=g) rfl
     obtain⟨WB,hWB⟩:∃WB,W15.alloc (.cells #[.slice (some ⟨g,0,none⟩) zs.length cap] 171)=WB:=⟨_,rfl⟩
     try rw[hWB]
     have hbw:Below W15.heap.size W15 WB:=by rw[←hWB];exact(Below.refl _ _).alloc (Nat.le_refl _) _
     have hsw:WB.heap.size=W15.heap.size+1:=by rw[←hWB];exact asz _ _
     have hnw:WB.heap[W15.heap.size]? =some (.cells #[.slice (some ⟨g,0,none⟩) zs.length cap] 171 (0,0)):=by rw[←hWB];exact heap_alloc_new _ _
     have hl15:=hB15.lt
     have hseq:=bw_stops 2 (by decide) (w:=WB) (O:=w.heap.size+1+1+1) (B1:=W15.heap.size) (g:=g) (cap:=cap) (zs:=zs) ⟨by omega,by omega⟩ ⟨by omega,by omega⟩ (by omega) (by rw[aT hnw];rfl) (fun j z hz=>by
      obtain⟨g',e,hc⟩:=jj hE15.row (show(zs.map (Value.int .i64))[j]? =some (.int .i64 z)by rw[List.getElem?_map,hz];rfl)
      injection e with e;injection e with e;subst e
      rw[hbw.cell (p:=⟨g,j,none⟩) hg.2];exact hc)
     have hBW:=hB15.below hbw
     have HBW:=Lib.hid hBW
     have HTB:=Lib.hid ((HTW.out W15 hE15.kb).below hbw)
     clear hE15 hB15 hg hbw hnw hl15 hWB hzs HS15 HCO HTW HTM HB5 HM hl2 hxl
     have hl6:=hBW.lt
     clear hBW
     refine wpIn_rangeFunc_ownG (F:=Fence.wide) (n:=3) rfl h3 (gf:=175) (lb:=#[.pointer (some ⟨W15.heap.size,0,none⟩)]) rfl trivial (aA Tryz.func175 (by kernel_rfl) rfl)
      hseq (fun {_ _ _} h k=>h.trans k) (kb_b (Nat.le_refl _)) (Below.refl _ _) (fun _=>rfl)
      (fun pre W=>(∀u∈pre,¬okZ (trE E) tq fr (zs.getD u 0))∧Below WB.heap.size WB W)
      (fun c pre W=>(c= .ret∧∃pre0 i,pre=pre0++ [i]∧(∀u∈pre0,¬okZ (trE E) tq fr (zs.getD u 0))∧okZ (trE E) tq fr (zs.getD i 0)∧Boxed W (w.heap.size+1+1+1) 3 (.int .i64 (zs.getD i 0))∧Boxed W (w.heap.size+1+1+1+1) 40 (.int .i64 0))∧Below w.heap.size w W∧WB.heap.size≤W.heap.size)
      (OwnFrom.and (ownFrom_pure _ _) (ownFrom_below (Nat.le_refl _) (Nat.le_refl _)))
      (fun c s W W' row hs hg hr=>⟨⟨hs.1.1,by
       obtain⟨pre0,z,k1,k2,k3,k4,k5⟩:=hs.1.2
       exact⟨pre0,z,k1,k2,k3,k4.kept hg (fun e=>by have:=(hr _ e.symm).1;omega),k5.kept hg (fun e=>by have:=(hr _ e.symm).1;omega)⟩⟩,hs.2.1.grown hg (by have:=hs.2.2;omega) (fun k e=>by have:=(hr _ e).1;omega),Nat.le_trans hs.2.2 hg.size⟩)
      ⟨fun _ h=>(by cases h),Below.refl _ _⟩
      (fun i=> {tmps:=#[ptB t,.string tq,.string fr,.pointer (some ⟨w.heap.size,0,none⟩),.pointer (some ⟨w.heap.size+1,0,none⟩),.pointer (some ⟨w.heap.size+1+1,0,none⟩),.pointer (some ⟨w.heap.size+1+1+1,0,none⟩),.pointer (some ⟨w.heap.size+1+1+1+1,0,none⟩),u8,undef,u10,u11,u12,u13,undef,.int .i64 (zs.getD i 0),ptB t,.bool false,.bool false,ptB t,.string tq,.bool true,.bool false,.bool false,.bool false,ptB t,.string fr,.bool true,.bool false,.bool false,.slice (some ⟨g8,0,none⟩) 1 1,ptB t,.slice adl k cpl,.int .i64 (k:Int),.int .i64 (k:Int),.bool false,u36,u37,u38,u39,u40,u41,u42,u43,u44,u45,u46,u47,u48,u49,u50,u51,u52,u53,u54,u55,u56,u57,u58,u59,u60,u61,u62,u63,u64,u65,u66,u67,u68,u8,.tuple #[],u8,.slice (some ⟨g,0,none⟩) zs.length cap,.func (.func 175) #[] #[.pointer (some ⟨W15.heap.size,0,none⟩)],.int .i64 (i:Int),.int .i64 (zs.getD i 0),undef,undef,undef,undef,undef,undef,undef,undef,undef,undef],defers:=[]}) ?assign ?body ?done ?stop
     case assign=>
      intro l i W K hK
      generalize hzi:zs.getD i 0=z at *
      gi_wp2
      exact hK
     case body=>
      rintro l pre i W ⟨hpre,hB⟩ hlt
      have hbW:=HBW.out.below hB
      have c3:=hbW.b3.cell
      have c4:=hbW.b4.cell
      have c5:=hbW.b5.cell
      obtain⟨z,hz⟩:∃z,zs.getD i 0=z:=⟨_,rfl⟩
      have hcan:=q_Can (HTB.out.below hB) HE.out (gQ HE.out z tq fr)
      have HB:=Lib.hid hB
      have HP:=Lib.hid hpre
      have HI:=Lib.hid hz
      have HBX:=Lib.hid hbW
      clear hbW hB hpre hlt
      rw[hz]
      have hkp:∀w',Below W.heap.size W w'→KeepsOthers W w':=fun w' h=>⟨h.size,fun k o hk _=>(h.block k (Array.getElem?_eq_some_iff.1 hk).1).trans hk⟩
      have HKP:=Lib.hid hkp
      clear hkp hz
      by_cases hz:0≤z
      ·have HZ:=Lib.hid hz
       by_cases hc:(bd (trE E) z tq fr).2=0
       ·rw[decide_eq_true hc]at hcan
        have HC:=Lib.hid hc
        clear hc
        gi_wp2_with (refine⟨trivial,?_⟩;gi_at_call 19;refine(CallsIn.inRound l (callsIn_wide.2 hcan)).mono ?_;clear hcan;rintro e W7 ⟨rfl,hb⟩;have hb7:=HBX.out.below hb;have e6:=hb7.b6.cell;have f6:=hb7.b6.frozen;have e7:=hb7.b7.cell;have f7:=hb7.b7.frozen;have HB7:=Lib.hid hb7;have HBB:=Lib.hid hb;clear hb hb7)
        obtain⟨k6,k7,kb⟩:=HB7.out.fin z 0
        exact⟨((HKP.out _ HBB.out).trans ((KeepsOthers.setCell _ _ _).trans (KeepsOthers.setCell _ _ _))).from _,⟨⟨rfl,pre,i,rfl,HP.out,by rw[HI.out];exact⟨HZ.out,HC.out⟩,by rw[HI.out];exact k6,k7⟩,kb,by have:=HB.out.size;have:=HBB.out.size;simp;omega⟩⟩
       ·rw[decide_eq_false hc]at hcan
        have HC:=Lib.hid hc
        clear hc
        gi_wp2_with (refine⟨trivial,?_⟩;gi_at_call 19;refine(CallsIn.inRound l (callsIn_wide.2 hcan)).mono ?_;clear hcan;rintro e W7 ⟨rfl,hb⟩;have HBB:=Lib.hid hb;clear hb)
        refine⟨(HKP.out _ HBB.out).from _,Kb.below (HBB.out.mono HB.out.size),⟨fun u hu=> ?_,HB.out.trans (HBB.out.mono HB.out.size)⟩⟩
        rcases List.mem_append.1 hu with h | h
        ·exact HP.out u h
        ·simp only[List.mem_singleton]at h;subst h;rw[HI.out];exact fun h=>HC.out h.2
      ·have hz':decide (0≤z)=false:=decide_eq_false hz
       have HZ:=Lib.hid (show¬okZ (trE E) tq fr z from fun h=>hz h.1)
       clear hz hcan
       gi_wp2_with (refine And.intro (show Fence.fn _ 19 from trivial) ?_)
       refine⟨KeepsFrom.refl _ _,Kb.refl _ _ _,⟨fun u hu=> ?_,HB.out⟩⟩
       rcases List.mem_append.1 hu with h | h
       ·exact HP.out u h
       ·simp only[List.mem_singleton]at h;subst h;rw[HI.out];exact HZ.out
     case done=>
      rintro D ys W hD rfl ⟨hpre,hB⟩ hK
      have hbW:=HBW.out.below hB
      have e6:=hbW.b6.cell
      have f6:=hbW.b6.frozen
      have e7:=hbW.b7.cell
      have f7:=hbW.b7.frozen
      obtain⟨k6,k7,kb⟩:=hbW.fin 0 17
      have HS7:=Lib.hid (((KeepsOthers.setCell W ⟨w.heap.size+1+1+1,0,none⟩ (.int .i64 0)).trans (KeepsOthers.setCell _ ⟨w.heap.size+1+1+1+1,0,none⟩ (.int .i64 17))).same D _ hK rfl)
      have HLS:=Lib.hid (HZD.out hpre)
      have K6:=Lib.hid k6
      have K7:=Lib.hid k7
      have KB:=Lib.hid kb
      have hDs:WB.heap.size≤((W.setCell ⟨w.heap.size+1+1+1,0,none⟩ (.int .i64 0)).setCell ⟨w.heap.size+1+1+1+1,0,none⟩ (.int .i64 17)).heap.size:=by simpa using hB.size
      clear hbW hpre hB k6 k7 kb
      gi_wp2
      generalize (W.setCell ⟨w.heap.size+1+1+1,0,none⟩ (.int .i64 0)).setCell ⟨w.heap.size+1+1+1+1,0,none⟩ (.int .i64 17)=WZ at *
      refine⟨by simp,.inl ⟨_,_,rfl,run_takeDeferred HS7.out,?_⟩⟩
      have hg:=grownBy_putObj' WZ D (.deferred none)
      have B8':=K6.out.kept hg (fun e=>by injection e with e;omega)
      have B9':=K7.out.kept hg (fun e=>by injection e with e;omega)
      exact⟨_,dt rfl _ _ rfl rfl (ck Tryz.underlying3 rfl B8'.cell) (ck Tryz.underlying40 rfl B9'.cell),_,_,rfl,HLS.out,KB.out.trans (belowK_b (w:=w) (Nat.le_refl _) WZ D _ _ (by omega) HS7.out rfl rfl)⟩
     case stop=>
      rintro D c pre W hD hpre ⟨⟨rfl,pre0,i,hp0,hno,hok,b6,b7⟩,hB,hsz⟩ hK
      subst hp0
      have HLS:=Lib.hid (HZS.out pre0 i hpre hno hok)
      have B6:=Lib.hid b6
      have B7:=Lib.hid b7
      have KB:=Lib.hid hB
      clear hpre hno hok b6 b7 hB
      gi_wp2
      refine⟨by simp,.inl ⟨_,_,rfl,run_takeDeferred hK,?_⟩⟩
      have hg:=grownBy_putObj' W D (.deferred none)
      have B8':=B6.out.kept hg (fun e=>by injection e with e;omega)
      have B9':=B7.out.kept hg (fun e=>by injection e with e;omega)
      exact⟨_,dt rfl _ _ rfl rfl (ck Tryz.underlying3 rfl B8'.cell) (ck Tryz.underlying40 rfl B9'.cell),_,_,rfl,HLS.out,KB.out.trans (belowK_b (w:=w) (Nat.le_refl _) W D _ _ (by omega) hK rfl rfl)⟩
  ·have HN:=Lib.hid (HNO.out (fun h=>kx h.1))
   rw[decide_eq_false kx]at HK2
   clear kx ky HNO
   gi_wp2_with (first
    | (refine⟨trivial,?_⟩;gi_at_call 108;refine(callsIn_wide.2 hk1).mono ?_;clear hk1;rintro e w2 ⟨rfl,hb⟩;have hb2:=HB1.out.below hb;have d3:=hb2.b3.cell;have d5:=hb2.b5.cell;have HB2:=Lib.hid hb2;have hk2:=HK2.out w2 hb2.bel;clear hb hb2)
    | (refine⟨trivial,?_⟩;gi_at_call 108;refine(callsIn_wide.2 hk2).mono ?_;clear hk2;rintro e w3 ⟨rfl,hb⟩;have hb3:=HB2.out.below hb;have e6:=hb3.b6.cell;have f6:=hb3.b6.frozen;have e7:=hb3.b7.cell;have f7:=hb3.b7.frozen;have HB3:=Lib.hid hb3;clear hb hb3))
   obtain⟨k6,k7,kb⟩:=HB3.out.fin 0 6
   exact⟨_,dt rfl _ _ rfl rfl (ck Tryz.underlying3 rfl k6.cell) (ck Tryz.underlying40 rfl k7.cell),_,_,rfl,HN.out,kb⟩
 ·have HN:=Lib.hid (HNO.out (fun h=>ky h.2))
  rw[decide_eq_false ky]at hk1
  clear ky HNO HK2
  gi_wp2_with (first
   | (refine⟨trivial,?_⟩;gi_at_call 108;refine(callsIn_wide.2 hk1).mono ?_;clear hk1;rintro e w3 ⟨rfl,hb⟩;have hb3:=HB1.out.below hb;have e6:=hb3.b6.cell;have f6:=hb3.b6.frozen;have e7:=hb3.b7.cell;have f7:=hb3.b7.frozen;have HB3:=Lib.hid hb3;clear hb hb3)
   | (refine And.intro (show Fence.wide.fn 108 from trivial) ?_))
  obtain⟨k6,k7,kb⟩:=HB3.out.fin 0 6
  exact⟨_,dt rfl _ _ rfl rfl (ck Tryz.underlying3 rfl k6.cell) (ck Tryz.underlying40 rfl k7.cell),_,_,rfl,HN.out,kb⟩
end
section
open Classical
theorem iNam {c:Nm} (h:dB c):Nam c:=.inl h
set_option maxRecDepth 100000 in
set_option maxHeartbeats 4000000 in
theorem aae (w:World):Calls Tryz.prog 53 #[] w fun e w'=>e= .returned (.bool true)∧Below w.heap.size w w':=by
 have hnew:=q_New w
 go_enter Tryz.func53,Tryz.ntmps53
 go_upto_region 2 with(go_at_call 31;refine hnew.mono ?_;rintro e w1 ⟨t,m,rfl,hT,h1,h2,h3⟩;have HI:=Lib.hid (TInv.new hT h1 h2 h3);have hat1:=uv (c:=nB) (p:=nA) (f:=0) hT TOk.nil (iNam iB) (iNam iA);clear hnew hT h1 h2 h3)
 go_upto_region 6 with(first
  | (go_at_call 67;refine hat1.mono ?_;rintro e w2 ⟨E2,R2,code,rfl,hP,hR,hA⟩;have HI2:=Lib.hid (HI.out.att hP hR hA);obtain⟨rfl,hR2⟩:=aw_u1 (REq.refl _) hA;have HR2:=Lib.hid (hR.trans hR2);have hat2:=uv (c:=nC) (p:=nA) (f:=5) HI2.out.tm HI2.out.sane.ok (iNam iC) (iNam iA);clear hat1 hP hR hA hR2 HI)
  | (go_at_call 67;refine hat2.mono ?_;rintro e w3 ⟨E3,R3,code,rfl,hP,hR,hA⟩;have HI3:=Lib.hid (HI2.out.att hP hR hA);obtain⟨rfl,hR3⟩:=aw_u2 HR2.out hA;have HR3:=Lib.hid (hR.trans hR3);have hs1:=oA (w:=w3) 0 1 0 (by decide) (by decide) (by decide);clear hat2 hP hR hA hR3 HI2 HR2)
  | (go_at_call 114;refine hs1.mono ?_;rintro e w4 ⟨v,rfl,hv,hb⟩;have HI4:=Lib.hid (HI3.out.below hb);obtain⟨cs,rfl,hcs⟩:=hv;obtain⟨c0,c1,c2,c3,c4,c5,c6,c7,c8,c9,c10,c11,c12,c13,c14,c15,c16,c17,c18,c19,c20,rfl⟩:=wN (cm hcs);have hfix:=q_FixP (p:=sh 0 1 0) (c:=nC) HI4.out.tm HI4.out.sane.ok ⟨_,rfl,hcs⟩ (jy (by decide) (by decide) (by decide));clear hcs hb hs1 HI3)
  | (go_at_call 70;refine hfix.mono ?_;rintro e w5 ⟨E5,R5,code,rfl,hP,hR,hD⟩;have HI5:=Lib.hid (HI4.out.next (s:=⟨3,nC,nA,0,sh 0 1 0⟩) hP hR (by unfold DoS;exact hD) (jy (by decide) (by decide) (by decide)));obtain⟨rfl,hR5⟩:=aw_u3 HI4.out.sane.ok HR3.out hD;have HR5:=Lib.hid (hR.trans hR5);have hs2:=oA (w:=w5) 1 0 0 (by decide) (by decide) (by decide);clear hfix hP hR hD hR5 HI4 HR3)
  | (go_at_call 114;refine hs2.mono ?_;rintro e w6 ⟨v,rfl,hv,hb⟩;have HI6:=Lib.hid (HI5.out.below hb);obtain⟨cs,rfl,hcs⟩:=hv;obtain⟨c0,c1,c2,c3,c4,c5,c6,c7,c8,c9,c10,c11,c12,c13,c14,c15,c16,c17,c18,c19,c20,rfl⟩:=wN (cm hcs);have hset1:=q_SetP (p:=sh 1 0 0) (c:=nB) (a:=0) HI6.out.tm HI6.out.sane.ok ⟨_,rfl,hcs⟩ (jy (by decide) (by decide) (by decide));clear hcs hb hs2 HI5)
  | (go_at_call 69;refine hset1.mono ?_;rintro e w7 ⟨E7,R7,code,rfl,hP,hR,hD⟩;have HI7:=Lib.hid (HI6.out.next (s:=⟨2,nB,nA,0,sh 1 0 0⟩) hP hR (by unfold DoS;exact hD) (jy (by decide) (by decide) (by decide)));obtain⟨rfl,hR7⟩:=aw_u4 HI6.out.sane.ok HR5.out hD;have HR7:=Lib.hid (hR.trans hR7);have hs3:=oA (w:=w7) 3 0 0 (by decide) (by decide) (by decide);clear hset1 hP hR hD hR7 HI6 HR5)
  | (go_at_call 114;refine hs3.mono ?_;rintro e w8 ⟨v,rfl,hv,hb⟩;have HI8:=Lib.hid (HI7.out.below hb);obtain⟨cs,rfl,hcs⟩:=hv;obtain⟨c0,c1,c2,c3,c4,c5,c6,c7,c8,c9,c10,c11,c12,c13,c14,c15,c16,c17,c18,c19,c20,rfl⟩:=wN (cm hcs);have hset2:=q_SetP (p:=sh 3 0 0) (c:=nB) (a:=10) HI8.out.tm HI8.out.sane.ok ⟨_,rfl,hcs⟩ (jy (by decide) (by decide) (by decide));clear hcs hb hs3 HI7)
  | (go_at_call 69;refine hset2.mono ?_;rintro e w9 ⟨E,R9,code,rfl,hP,hR,hD⟩;have HI9:=Lib.hid (HI8.out.next (s:=⟨2,nB,nA,10,sh 3 0 0⟩) hP hR (by unfold DoS;exact hD) (jy (by decide) (by decide) (by decide)));obtain⟨rfl,hR9⟩:=aw_u5 HI8.out.sane.ok HR7.out hD;have HR:=Lib.hid (hR.trans hR9);have hpa:=q_Path (x:=nB) (y:=nC) (a:=5) HI9.out.tm HI9.out.sane;clear hset2 hP hR hD hR9 HI8 HR7))
 rw[pV HR.out (by decide),aw_path HR.out]at hpa
 simp only[if_pos]at hpa
 have HTE:=Lib.hid (show∀wq,Below w9.heap.size w9 wq→TM wq t m E from fun wq k=>HI9.out.tm.below k)
 have HSN:=Lib.hid HI9.out.sane
 have HB9:=Lib.hid HI9.out.bel
 clear HI9
 go_upto_region 7 with(go_at_call 48;refine hpa.mono ?_;clear hpa;rintro e wp ⟨v2,rfl,hrow,hb⟩;obtain⟨adn,cpn,rfl⟩:=ft hrow;have HROW:=Lib.hid hrow;have HBP:=Lib.hid (HB9.out.trans (hb.mono HB9.out.size));have HT:=Lib.hid (show∀wq,Below wp.heap.size wp wq→TM wq t m E from fun wq k=>HTE.out wq (hb.trans (k.mono hb.size)));clear hrow hb HTE HB9)
 have hb0:=Below.refl wp.heap.size wp
 have hf1:=j7 (HT.out wp hb0) HSN.out (gQ HSN.out 5 nC nB)
 rw[aw_f1 HR.out]at hf1
 simp only at hf1
 refine wp_region_list ?_
 refine ag rfl (v:=ptB t) (w':=wp) (by rfl) ?_
 refine wpList_plain rfl (fun K hK=> ?_)
 go_simp
 go_at_call 18
 refine hf1.mono ?_
 rintro e w4 ⟨v,rfl,hv,hb⟩
 obtain⟨vs4,rfl,hul,hu1,hun⟩:=db hv
 refine hK _ _ ?_
 clear hK K hf1
 refine ag rfl (v:=.tuple #[.agg vs4.toArray,.int .i64 0]) (w':=w4) (by rfl) ?_
 refine ag rfl (v:=.agg vs4.toArray) (w':=w4) (by go_simp) ?_
 refine ag rfl (v:=.int .i64 0) (w':=w4) (by go_simp) ?_
 have hpn:=PB.new w4
 have hvn:bj (w4.alloc (.cells aw.toArray 39)) (.agg vs4.toArray) (sh 2 (-1) 0):=IsL.mono hv hpn.bel
 have hth:=hpn.there
 rw[←hul]at hth
 have hb5:=aG vs4 0 _ (hb.trans (hpn.bel.mono hb.size)) hb.size (b:=w4.heap.size)
 have H4:=Lib.hid ((hpn.base (hb0.trans (hb.mono (hb0).size))).put (us:=vs4) hul hun)
 have HV4:=Lib.hid (hpn.keep (us:=vs4) hvn)
 refine ag rfl (v:=.pointer (some ⟨w4.heap.size,0,none⟩)) (w':=w4.alloc (.cells aw.toArray 39)) (by go_simp;try rfl) ?_
 refine wpList_store_mid rfl _ _ _ rfl w4.heap.size 0 vs4.toArray rfl rfl (by simpa using hth) (aZ hul) hu1 ?_
 rw[show vs4.toArray.toList=vs4 from rfl]
 have HBL4:=Lib.hid ((hb0).trans (hb5.mono (hb0).size))
 generalize hW5:(w4.alloc (.cells aw.toArray 39)).setCells w4.heap.size 0 vs4=W4 at *
 obtain⟨B4,hB4⟩:∃B,w4.heap.size=B:=⟨_,rfl⟩
 rw[hB4]at H4⊢
 clear hW5 hB4 hpn hvn hth hb5 hv hb hu1 hun hul
 have HGE4:=Lib.hid H4.out.ge
 have hf2:=j7 (HT.out W4 HBL4.out) HSN.out (gQ HSN.out 11 nA nB)
 rw[aw_f2 HR.out]at hf2
 simp only at hf2
 go_upto_region 8 with(fail)
 refine wp_region_list ?_
 refine ag rfl (v:=ptB t) (w':=W4) (by rfl) ?_
 refine wpList_plain rfl (fun K hK=> ?_)
 go_simp
 go_at_call 18
 refine hf2.mono ?_
 rintro e w4 ⟨v,rfl,hv,hb⟩
 obtain⟨vs6,rfl,hul,hu1,hun⟩:=db hv
 refine hK _ _ ?_
 clear hK K hf2
 refine ag rfl (v:=.tuple #[.agg vs6.toArray,.int .i64 17]) (w':=w4) (by rfl) ?_
 refine ag rfl (v:=.agg vs6.toArray) (w':=w4) (by go_simp) ?_
 refine ag rfl (v:=.int .i64 17) (w':=w4) (by go_simp) ?_
 have hpn:=PB.new w4
 have hvn:bj (w4.alloc (.cells aw.toArray 39)) (.agg vs6.toArray) Pq.zero:=IsL.mono hv hpn.bel
 have hth:=hpn.there
 rw[←hul]at hth
 have hb5:=aG vs6 0 _ (hb.trans (hpn.bel.mono hb.size)) hb.size (b:=w4.heap.size)
 have H4b:=Lib.hid (H4.out.next hb5)
 have HV4b:=Lib.hid (IsL.mono HV4.out hb5)
 have H6:=Lib.hid ((hpn.base (HBL4.out.trans (hb.mono (HBL4.out).size))).put (us:=vs6) hul hun)
 have HV6:=Lib.hid (hpn.keep (us:=vs6) hvn)
 refine ag rfl (v:=.pointer (some ⟨w4.heap.size,0,none⟩)) (w':=w4.alloc (.cells aw.toArray 39)) (by go_simp;try rfl) ?_
 refine wpList_store_mid rfl _ _ _ rfl w4.heap.size 0 vs6.toArray rfl rfl (by simpa using hth) (aZ hul) hu1 ?_
 rw[show vs6.toArray.toList=vs6 from rfl]
 have HBL6:=Lib.hid ((HBL4.out).trans (hb5.mono (HBL4.out).size))
 generalize hW5:(w4.alloc (.cells aw.toArray 39)).setCells w4.heap.size 0 vs6=W6 at *
 obtain⟨B6,hB6⟩:∃B,w4.heap.size=B:=⟨_,rfl⟩
 rw[hB6]at H6⊢
 clear hW5 hB6 hpn hvn hth hb5 hv hb hu1 hun hul
 clear H6 HV6
 have hf3:=j7 (HT.out W6 HBL6.out) HSN.out (gQ HSN.out 4 nC nB)
 rw[aw_f3 HR.out]at hf3
 simp only at hf3
 go_upto_region 9 with(fail)
 refine wp_region_list ?_
 refine ag rfl (v:=ptB t) (w':=W6) (by rfl) ?_
 refine wpList_plain rfl (fun K hK=> ?_)
 go_simp
 go_at_call 18
 refine hf3.mono ?_
 rintro e w4 ⟨v,rfl,hv,hb⟩
 obtain⟨vs8,rfl,hul,hu1,hun⟩:=db hv
 refine hK _ _ ?_
 clear hK K hf3
 refine ag rfl (v:=.tuple #[.agg vs8.toArray,.int .i64 18]) (w':=w4) (by rfl) ?_
 refine ag rfl (v:=.agg vs8.toArray) (w':=w4) (by go_simp) ?_
 refine ag rfl (v:=.int .i64 18) (w':=w4) (by go_simp) ?_
 have hpn:=PB.new w4
 have hvn:bj (w4.alloc (.cells aw.toArray 39)) (.agg vs8.toArray) Pq.zero:=IsL.mono hv hpn.bel
 have hth:=hpn.there
 rw[←hul]at hth
 have hb5:=aG vs8 0 _ (hb.trans (hpn.bel.mono hb.size)) hb.size (b:=w4.heap.size)
 have H4c:=Lib.hid (H4b.out.next hb5)
 have HV4c:=Lib.hid (IsL.mono HV4b.out hb5)
 have H8:=Lib.hid ((hpn.base (HBL6.out.trans (hb.mono (HBL6.out).size))).put (us:=vs8) hul hun)
 have HV8:=Lib.hid (hpn.keep (us:=vs8) hvn)
 refine ag rfl (v:=.pointer (some ⟨w4.heap.size,0,none⟩)) (w':=w4.alloc (.cells aw.toArray 39)) (by go_simp;try rfl) ?_
 refine wpList_store_mid rfl _ _ _ rfl w4.heap.size 0 vs8.toArray rfl rfl (by simpa using hth) (aZ hul) hu1 ?_
 rw[show vs8.toArray.toList=vs8 from rfl]
 have HBL8:=Lib.hid ((HBL6.out).trans (hb5.mono (HBL6.out).size))
 generalize hW5:(w4.alloc (.cells aw.toArray 39)).setCells w4.heap.size 0 vs8=W8 at *
 obtain⟨B8,hB8⟩:∃B,w4.heap.size=B:=⟨_,rfl⟩
 rw[hB8]at H8⊢
 clear hW5 hB8 hpn hvn hth hb5 hv hb hu1 hun hul
 clear H8 HV8
 have hf4:=j7 (HT.out W8 HBL8.out) HSN.out (gQ HSN.out 4 nX nB)
 rw[aw_f4 HR.out]at hf4
 simp only at hf4
 go_upto_region 10 with(fail)
 refine wp_region_list ?_
 refine ag rfl (v:=ptB t) (w':=W8) (by rfl) ?_
 refine wpList_plain rfl (fun K hK=> ?_)
 go_simp
 go_at_call 18
 refine hf4.mono ?_
 rintro e w4 ⟨v,rfl,hv,hb⟩
 obtain⟨vs10,rfl,hul,hu1,hun⟩:=db hv
 refine hK _ _ ?_
 clear hK K hf4
 refine ag rfl (v:=.tuple #[.agg vs10.toArray,.int .i64 6]) (w':=w4) (by rfl) ?_
 refine ag rfl (v:=.agg vs10.toArray) (w':=w4) (by go_simp) ?_
 refine ag rfl (v:=.int .i64 6) (w':=w4) (by go_simp) ?_
 have hpn:=PB.new w4
 have hvn:bj (w4.alloc (.cells aw.toArray 39)) (.agg vs10.toArray) Pq.zero:=IsL.mono hv hpn.bel
 have hth:=hpn.there
 rw[←hul]at hth
 have hb5:=aG vs10 0 _ (hb.trans (hpn.bel.mono hb.size)) hb.size (b:=w4.heap.size)
 have H4d:=Lib.hid (H4c.out.next hb5)
 have HV4d:=Lib.hid (IsL.mono HV4c.out hb5)
 have H10:=Lib.hid ((hpn.base (HBL8.out.trans (hb.mono (HBL8.out).size))).put (us:=vs10) hul hun)
 have HV10:=Lib.hid (hpn.keep (us:=vs10) hvn)
 refine ag rfl (v:=.pointer (some ⟨w4.heap.size,0,none⟩)) (w':=w4.alloc (.cells aw.toArray 39)) (by go_simp;try rfl) ?_
 refine wpList_store_mid rfl _ _ _ rfl w4.heap.size 0 vs10.toArray rfl rfl (by simpa using hth) (aZ hul) hu1 ?_
 rw[show vs10.toArray.toList=vs10 from rfl]
 have HBL10:=Lib.hid ((HBL8.out).trans (hb5.mono (HBL8.out).size))
 generalize hW5:(w4.alloc (.cells aw.toArray 39)).setCells w4.heap.size 0 vs10=W10 at *
 obtain⟨B10,hB10⟩:∃B,w4.heap.size=B:=⟨_,rfl⟩
 rw[hB10]at H10⊢
 clear hW5 hB10 hpn hvn hth hb5 hv hb hu1 hun hul
 clear H10 HV10
 clear HBL4 HBL6 HBL8 H4 H4b H4c HV4 HV4b HV4c
 have hla1:=uM (tq:=nC) (fr:=nB) (HT.out W10 HBL10.out) HSN.out
 go_upto_region 13 with(first
  | (go_at_call 50;refine hla1.mono ?_;clear hla1;rintro e W11 ⟨n1,c1,rfl,hL,hb⟩;obtain⟨rfl,rfl⟩:=aw_lat1 HR.out hL;have HBL11:=Lib.hid (HBL10.out.trans (hb.mono HBL10.out.size));have H4e:=Lib.hid (H4d.out.next hb);have HV4e:=Lib.hid (IsL.mono HV4d.out hb);have hla2:=uM (tq:=nA) (fr:=nC) (HT.out W11 HBL11.out) HSN.out;clear hL hb HBL10 H4d HV4d)
  | (go_at_call 50;refine hla2.mono ?_;clear hla2;rintro e W12 ⟨n2,c2,rfl,hL,hb⟩;obtain⟨rfl,rfl⟩:=aw_lat2 HR.out hL;have HBL12:=Lib.hid (HBL11.out.trans (hb.mono HBL11.out.size));have H4f:=Lib.hid (H4e.out.next hb);have HV4f:=Lib.hid (IsL.mono HV4e.out hb);have hacr:=q_Across (tq:=nB) (ta:=10) (fr:=nB) (fa:=0) (th:=nA) (HT.out W12 HBL12.out) HSN.out (acr_ok HSN.out nB 10 nB 0 nA);clear hL hb HBL11 H4e HV4e))
 rw[aw_f8 HR.out]at hacr
 simp only at hacr
 have HLT:=Lib.hid (show B4<W12.heap.size from(Array.getElem?_eq_some_iff.1 H4f.out.blk).1)
 refine wp_region_list ?_
 refine ag rfl (v:=ptB t) (w':=W12) (by rfl) ?_
 refine wpList_plain rfl (fun K hK=> ?_)
 go_simp
 go_at_call 49
 refine hacr.mono ?_
 rintro e w4 ⟨v,rfl,hv,hb⟩
 obtain⟨vs16,rfl,hul,hu1,hun⟩:=db hv
 refine hK _ _ ?_
 clear hK K hacr
 refine ag rfl (v:=.tuple #[.agg vs16.toArray,.int .i64 0]) (w':=w4) (by rfl) ?_
 refine ag rfl (v:=.agg vs16.toArray) (w':=w4) (by go_simp) ?_
 refine ag rfl (v:=.int .i64 0) (w':=w4) (by go_simp) ?_
 have hpn:=PB.new w4
 have hvn:bj (w4.alloc (.cells aw.toArray 39)) (.agg vs16.toArray) (sh (-2) 0 0):=IsL.mono hv hpn.bel
 have hth:=hpn.there
 rw[←hul]at hth
 have hb5:=aG vs16 0 _ (hb.trans (hpn.bel.mono hb.size)) hb.size (b:=w4.heap.size)
 have H4g:=Lib.hid (H4f.out.next hb5)
 have HV4g:=Lib.hid (IsL.mono HV4f.out hb5)
 have H16:=Lib.hid ((hpn.base (HBL12.out.trans (hb.mono (HBL12.out).size))).put (us:=vs16) hul hun)
 have HV16:=Lib.hid (hpn.keep (us:=vs16) hvn)
 refine ag rfl (v:=.pointer (some ⟨w4.heap.size,0,none⟩)) (w':=w4.alloc (.cells aw.toArray 39)) (by go_simp;try rfl) ?_
 refine wpList_store_mid rfl _ _ _ rfl w4.heap.size 0 vs16.toArray rfl rfl (by simpa using hth) (aZ hul) hu1 ?_
 rw[show vs16.toArray.toList=vs16 from rfl]
 have HBL16:=Lib.hid ((HBL12.out).trans (hb5.mono (HBL12.out).size))
 generalize hW5:(w4.alloc (.cells aw.toArray 39)).setCells w4.heap.size 0 vs16=W13 at *
 have hlt4:B4<w4.heap.size:=Nat.lt_of_lt_of_le HLT.out hb.size
 obtain⟨B16,hB16⟩:∃B,w4.heap.size=B:=⟨_,rfl⟩
 rw[hB16]at H16 hlt4⊢
 clear hW5 hB16 hpn hvn hth hb5 hv hb hu1 hun hul
 clear HBL12 H4f HV4f HT HSN HR
 go_upto_region 14 with(fail)
 have hrw:=dH (w':=W13) HROW.out (fun g hg=>HBL16.out.block g (cE HROW.out hg).2)
 have hge4:=HGE4.out
 obtain⟨cs4,e4,hc4⟩:=HV4g.out
 have e4:vs4=cs4:=by injection e4 with e4;simpa using e4
 obtain⟨cs16,e16,hc16⟩:=HV16.out
 have e16:vs16=cs16:=by injection e16 with e16;simpa using e16
 rw[←e4]at hc4
 rw[←e16]at hc16
 clear e4 e16
 have hs:=fun(ts:List Value) (hk:_) (hn:ts.length=142)=>mst_two (ts:=ts) (nt:=142) (ρ:=frs ((sh 2 (-1) 0).cs++(sh (-2) 0 0).cs)++([.row 9 3 (nmQ [nB,nA,nC])]:List Vp)) (we:=wp) (w:=W13) (T:=39) (b0:=B4) (b1:=B16) (l0:=bG [0,1,2,3,4,5,6]) (l1:=bG [7,8,9,10,11,12,13])
  (known:=[none,none,some (.v (.one (.ref 42))),some (.v (.one (.i .i64 0))),some (.v (.one (.ptr 0 0))),some (.v (.one (.i .i64 0))),none,some (.v (.one (.i .i64 17))),none,some (.v (.one (.i .i64 18))),none,some (.v (.one (.i .i64 6))),some (.v (.one (.i .i64 10))),some (.v (.one (.i .i64 0))),some (.v (.one (.i .i64 1099511627776))),some (.v (.one (.i .i64 0))),some (.v (.one (.ptr 1 0))),some (.v (.one (.i .i64 0)))])
  (by omega) HBL16.out hge4 H16.out.ge H4g.out.blk H16.out.blk H4g.out.nu H16.out.nu
  ((dU (xs:=(sh 2 (-1) 0).cs++(sh (-2) 0 0).cs) (ks:=[0,1,2,3,4,5,6]) (vs:=(sh 2 (-1) 0).cs) ⟨rfl,rfl,rfl,rfl,rfl,rfl,rfl,trivial⟩).2 hc4)
  ((dU (xs:=(sh 2 (-1) 0).cs++(sh (-2) 0 0).cs) (ks:=[7,8,9,10,11,12,13]) (vs:=(sh (-2) 0 0).cs) ⟨rfl,rfl,rfl,rfl,rfl,rfl,rfl,trivial⟩).2 hc16) hk hn
 have hrf:Leaf.holds (frs ((sh 2 (-1) 0).cs++(sh (-2) 0 0).cs)++([.row 9 3 (nmQ [nB,nA,nC])]:List Vp)) (qe B4 B16) W13 (.ref 42) (.slice adn [nB,nA,nC].length cpn):=⟨_,rfl,z7 hrw,fun g hg hx=>by
  obtain⟨o,n,c,e⟩:=hg
  have hl:=(cE HROW.out (g:=g) (by injection e with e _ _;rw[e];rfl)).2
  have h16:=H16.out.ge
  rcases blk2_has hx with rfl | rfl<;>omega⟩
 refine reg_bool (x:=0) (by decide) (C:=[_,_,_,_,_]) (L:=[_])
  (ae (I_names (n:=42) (L:=[nB,nA,nC]) rfl (by decide)) (ae (yj 2 (-1) 0 (kr:=[0,1,2,3,4,5,6]) ⟨rfl,rfl,rfl,rfl,rfl,rfl,rfl,trivial⟩ (by decide) (by decide) (by decide)) (ae (yj (-2) 0 0 (kr:=[7,8,9,10,11,12,13]) ⟨rfl,rfl,rfl,rfl,rfl,rfl,rfl,trivial⟩ (by decide) (by decide) (by decide))
   (ae (pm (ka:=[0,1,2,3,4,5,6]) (kb:=[0,1,2,3,4,5,6]) (a:=sh 2 (-1) 0) (b:=sh 2 (-1) 0) ⟨rfl,rfl,rfl,rfl,rfl,rfl,rfl,trivial⟩ ⟨rfl,rfl,rfl,rfl,rfl,rfl,rfl,trivial⟩ ((jy (by decide) (by decide) (by decide)).mono (by decide)) ((jy (by decide) (by decide) (by decide)).mono (by decide)) rfl)
   (ae (pm (ka:=[7,8,9,10,11,12,13]) (kb:=[7,8,9,10,11,12,13]) (a:=sh (-2) 0 0) (b:=sh (-2) 0 0) ⟨rfl,rfl,rfl,rfl,rfl,rfl,rfl,trivial⟩ ⟨rfl,rfl,rfl,rfl,rfl,rfl,rfl,trivial⟩ ((jy (by decide) (by decide) (by decide)).mono (by decide)) ((jy (by decide) (by decide) (by decide)).mono (by decide)) rfl) ai)))))
  (af (o_bs3 (m:=42) nB nA nC rfl) aj) (by kernel_rfl) ?_ (hs _ ⟨hrf,rfl,⟨B4,rfl,rfl⟩,rfl,rfl,rfl,rfl,rfl,rfl,rfl,rfl,⟨B16,rfl,rfl⟩,rfl,trivial⟩ rfl) ?_
 ·kernel_rfl
 intro a' w' h0 hd hk
 have HBW:=Lib.hid (HBP.out.trans (hk.to.mono HBP.out.size))
 clear hs hrf hc4 hc16 hrw hge4 hlt4 hk HBL16 H4g HV4g H16 HV16 HROW
 go_wp2
 refine bodyPost_ret (results_tmp rfl _ _ _) hd ?_
 exact⟨congrArg Ending.returned h0,HBW.out⟩
end
end Go.Proofs.YtggfmklppkioeaaGreat
