/- The reference's frames: rows of texts, an insertion. -/
import Derived.Test.YtggfmklppkioeaaGreatL08
import Derived.Deep.QuietTactic
import Derived.Deep.MidRow
import Derived.RangeFuncNested
import Derived.RangeFuncBound
import Derived.RangeFuncCalls
import Derived.RangeFuncLeaves
import Derived.RangeFuncBox
import Derived.Shelf.Abstract
import Derived.Shelf.RegionOpen
import Derived.OwnWalkIn
import Derived.TacticsInMore
import Derived.LoopNIn
import Derived.LoopIn
import Derived.Sort.LoopGhostIn
import Derived.Maps.AppendAt
namespace Go.Proofs.YtggfmklppkioeaaGreat
set_option linter.unusedSimpArgs false
set_option linter.unusedVariables false
set_option maxRecDepth 100000
open Go.RowKit
open _root_.Go renaming Addr → A0,Calls → AF,all_oneCell_toArray → Dt,bodyPost_ret → Ba,heap_alloc_new → Bs,heap_alloc_old → EZ,heap_setCell_same → C1,wpAnyH_done → CR,wpAnyH_ready → FB,wpAnyH_take → BM,wpList_load_mid → Du,wpList_plain → BC,wpList_store_mid → Ca,wp_block → Cr,wp_region_held_drew → Df,wp_region_list → Bn,wp_ret → Cs,wp_seq → BQ,yieldsIf_load_mid → FS
open _root_.Go.RowKit renaming Below → AW
open _root_.Go.AllReadyH renaming cons → Fr,nil → Fs
open _root_.And renaming intro → BA
open _root_.Array renaming getElem?_eq_some_iff → A2,toList_setIfInBounds → F0
open _root_.Go.RowKit.Below renaming refl → AH
open _root_.Go.Builtin renaming append_ → BT
open _root_.ByteArray renaming empty → BZ,toList → Fp
open _root_.Go.Ending renaming returned → BF
open _root_.Go.Fence renaming wide → Ce
open _root_.Int renaming tmod_eq_emod_of_nonneg → DX
open _root_.Go.Lib renaming hid → AE
open _root_.List renaming append_nil → CO,cons_append → DA,exists_mem_of_ne_nil → F7,flatMap_append → DF,flatMap_cons → Cx,getElem?_append_left → BB,getElem?_append_right → Bw,getElem?_drop → Cw,getElem?_eq_getElem → AM,getElem?_eq_some_iff → A1,getElem?_map → Bp,getElem?_take → BJ,getElem_of_mem → BL,length_append → Bj,length_cons → Bh,length_drop → CB,length_map → Cj,length_nil → Dc,length_take → A9,map_append → Cl,map_map → CF,mem_append → AJ,mem_cons → AY,mem_cons_of_mem → Bi,mem_cons_self → Bo,mem_flatMap → Br,mem_map → Be,mem_of_getElem? → A5,nil_append → Db,nodup_append → BN,nodup_cons → Bz,not_mem_nil → Dx,pairwise_append → DE,size_toArray → BW,take_add_one → EX,take_append_drop → Fi,take_length → Fj,take_of_length_le → FY
open _root_.Nat renaming add_sub_cancel_left → Ez,le_of_not_lt → DQ,le_refl → AI,le_succ → DW,le_trans → AG,lt_of_lt_of_le → Bv,lt_or_ge → Bg,min_eq_left → Fy,not_lt_zero → Dd,sub_self → Dk,zero_add → A7,zero_le → A3
open _root_.Option renaming map_some → BG,some → A4
open _root_.Or renaming inl → AX
open _root_.Go.Proofs.Tryz renaming func41 → EY,prog → AD,underlying120 → En,underlying39 → CD,underlying68 → DJ
open _root_.Go.Value renaming int → AN,ownBlock → Cy,string → Bc
open _root_.Go.World renaming cell?_of_block → Cb,frozen? → Dp,ownsRow_nil → Dz
section
open Classical
abbrev jD(a b:Nm):Prop:=a.data.toList<b.data.toList
theorem uG:∀(x y:List UInt8),Op.bytesLess x y=decide (x<y)
 | [],[]=>by simp[Op.bytesLess]
 | _::_,[]=>by simp[Op.bytesLess]
 | [],_::_=>by simp[Op.bytesLess]
 | a::x,b::y=>by
  rw[Op.bytesLess,uG x y];simp only[List.cons_lt_cons_iff];by_cases h1:a<b<;>by_cases h2:a=b<;>by_cases h3:x<y<;>simp[h1,h2,h3]
theorem less_nm(c d:Nm):Op.bytesLess (Fp c) (Fp d)=decide (jD c d):=by
 rw[uG,Lib.toList_data,Lib.toList_data]
abbrev SRow(w:World)(v:Value)(l:List Nm):Prop:=a8 w 9 1 v l.length (l.map Bc)
variable{w:World}{g:Nat}{xs:List Value}
theorem y6{T:TypeId}{sz n c j:Nat}{u:Value}(h:a8 w T sz (.slice (some ⟨g,0,none⟩) n c) n xs)(P:noU u):a8 (w.setCell ⟨g,j,none⟩ u) T sz (.slice (some ⟨g,0,none⟩) n c) n (xs.set j u):=by
 obtain⟨⟨h1,h2⟩,h3⟩:=h;rcases h2 with⟨e,_⟩ | ⟨J,cap,cur,e,hb,H,hn,K,F,ht⟩
 ·cases e
 ·have C:g=J/\c=cap:=by injection e with C _ I;injection C with C;injection C with C;exact⟨C,I⟩
  obtain⟨rfl,rfl⟩:=C;have hs:=C1 w g j cur T u H;refine⟨⟨by rw[List.length_set];exact h1,.inr ⟨g,c,cur.setIfInBounds j u,rfl,hb,hs,hn,K,by simpa using F,?_⟩⟩,λg2 G=> ?_⟩
  ·rw[F0,List.take_set,ht]
  ·obtain rfl:g=g2:=A4.inj G;refine jS hs (λy hy=> ?_);rw[F0]at hy;rcases List.mem_or_eq_of_mem_set hy with hy | rfl
   ·exact um H (h3 _ rfl) y hy
   ·exact P
theorem acE{T:TypeId}{n c j:Nat}{u:Value}(h:a8 w T 1 (.slice (some ⟨g,0,none⟩) n c) n xs)(_:j<n)(C:noU u):a8 (w.setCell ⟨g,j,none⟩ u) T 1 (.slice (some ⟨g,0,none⟩) n c) n (xs.set j u):=y6 h C
theorem mG(c:Nm):noU (.string c):=λn e=>by cases e
theorem srow_app{v:Value}{l:List Nm}{x:Nm}{ty:TypeId}(h:SRow w v l)(hl:l.length<=2000000)(F:∀j u,[Bc x][j]? =some u->w.cell? ((⟨g,0,none⟩:A0).add j)=some u){B:Nat}{w0:World}(hb:AW B w0 w)(G:B<=w.heap.size)(H:∀g,v.ownBlock=some g->B<=g):
  ∃v' w',(BT #[68,68] ty #[v,.slice (some ⟨g,0,none⟩) 1 1]).run AD w= .ok v' w'/\SRow w' v' (l++ [x])/\AW B w0 w'/\∀g,v'.ownBlock=some g->B<=g:=by
 obtain⟨v',w',J,k2,k3,K⟩:=mE (p:=AD) (ty:=ty) (c:=1) (m:=1) (sz:=1) (bytes:=16) DJ Aa h rfl F (λu C=>by simp at C;subst C;rfl) (λu C=>by simp at C;subst C;exact mG _) it no no;refine⟨v',w',J,?_,hb.grown k2 G (λk I=>H k I),λg F=>(k3 g F).elim (H g) (λh=>AG G h)⟩;show a8 w' _ 1 v' (l++ [x]).length _;rw[Bj,Cl];exact K
section
variable {α:Type}
def fB{α:Type}(l:List α)(x:α)(p:Nat):List α:=l.take p++x::l.drop p
variable{p:Nat}
theorem sG{l:List α}{x:α}(h:p<=l.length):(fB l x p).length=l.length+1:=by unfold fB;simp;omega
theorem insN_end(l:List α)(x:α):fB l x l.length=l++ [x]:=by unfold fB;simp
theorem insN_mem{l:List α}{x y:α}:y∈fB l x p↔y∈l\/y=x:=by
 unfold fB;rw[AJ,AY];constructor
 ·rintro(h | h | h)
  ·exact .inl (List.mem_of_mem_take h)
  ·exact .inr h
  ·exact .inl (List.mem_of_mem_drop h)
 ·rintro(h | h)
  ·rw[<-Fi p l]at h;rcases AJ.1 h with h | h
   ·exact .inl h
   ·exact .inr (.inr h)
  ·exact .inr (.inl h)
theorem insN_step{l:List α}{x y:α}(h:l[p]? =some y):((fB l x (p+1)).set (p+1) y).set p x=fB l x p:=by
 obtain⟨A,B,rfl,rfl⟩:=ei h;have C:fB (A++y::B) x (A.length+1)=A++y::x::B:=by
  unfold fB;simp only[List.take_append,List.drop_append,Ez,List.take_succ_cons,List.take_zero,List.drop_succ_cons,List.drop_zero];rw[FY no,List.drop_eq_nil_of_le no];simp
 have F:fB (A++y::B) x A.length=A++x::y::B:=by unfold fB;simp
 rw[C,F];simp[List.set_append]
theorem insN_at{l:List α}{x:α}(h:p<=l.length):(fB l x p)[p]? =some x:=by
 unfold fB;rw[Bw (by rw[A9];omega),A9,Fy h,Dk];rfl
theorem insN_bef{l:List α}{x y:α}(h:l[p]? =some y):(fB l x (p+1))[p]? =some y:=by
 have hp:=(A1.1 h).1;unfold fB;rw[BB (by rw[A9];omega),BJ,if_pos no];exact h
theorem insN_sort{r:α->α->Prop}{l:List α}{x:α}(hl:l.Pairwise r)(h1:∀z∈l.drop p,r x z)(h2:∀z∈l.take p,r z x):(fB l x p).Pairwise r:=by
 unfold fB;rw[DE];rw[<-Fi p l,DE]at hl;refine⟨hl.1,List.pairwise_cons.2 ⟨h1,hl.2.1⟩,λa ha b hb=> ?_⟩;rcases AY.1 hb with rfl | hb
 ·exact h2 a ha
 ·exact hl.2.2 a ha b hb
end
theorem nmlt_or{a b:Nm}(h:a≠b)(k:¬jD a b):jD b a:=by
 have h1:b.data.toList<=a.data.toList:=List.not_lt.1 k;rcases List.le_iff_lt_or_eq.1 h1 with h2 | h2
 ·exact h2
 ·exact absurd (by cases a;cases b;simp at h2;subst h2;rfl) h
end
section
open Classical
def nmE(L:List Rl)(i:Nat):Option Nm:=(L[i / 2]?).map λl=>if i % 2=1 then l.x.par else l.c
variable{L:List Rl}{x:Nm}
theorem nmE_known:(∃i,i<2*L.length/\nmE L i=some x)↔aF (trR L) x:=by
 rw[j6];constructor
 ·rintro⟨i,_,h⟩;unfold nmE at h
  cases hl:L[i / 2]? with
  | none=>rw[hl]at h;cases h
  | some l=>
   rw[hl]at h;simp only[BG,A4.injEq]at h;refine⟨i / 2,l,hl,?_⟩;split at h
   ·exact .inr h
   ·exact .inl h
 ·rintro⟨i,l,h,h1⟩;have hi:=(A1.1 h).1;rcases h1 with h1 | h1
  ·exact⟨2*i,no,by unfold nmE;rw[show 2*i / 2=i by omega,h,BG,if_neg no,h1]⟩
  ·exact⟨2*i+1,no,by unfold nmE;rw[show(2*i+1) / 2=i by omega,h,BG,if_pos no,h1]⟩
structure FrS(L:List Rl)(k:Nat)(l:List Nm):Prop where
 mem:∀x,x∈l↔∃i,i<k/\nmE L i=some x
 srt:l.Pairwise jD
 len:l.length<=k
variable{l:List Nm}
theorem FrS.same{k:Nat}(h:FrS L k l)(F:nmE L k=some x)(C:x∈l):FrS L (k+1) l:=
 ⟨λy=>(h.mem y).trans ⟨λ⟨i,hi,e⟩=>⟨i,no,e⟩,λ⟨i,hi,e⟩=>by
  rcases Bg i k with h1 | h1
  ·exact⟨i,h1,e⟩
  ·obtain rfl:i=k:=no
   rw[F]at e;injection e with e;subst e;exact(h.mem x).1 C⟩,h.srt,Nat.le_succ_of_le h.len⟩
variable{p:Nat}
theorem FrS.add{k:Nat}(h:FrS L k l)(C:nmE L k=some x)(hp:p<=l.length)(h1:∀z∈l.drop p,jD x z)(h2:∀z∈l.take p,jD z x):FrS L (k+1) (fB l x p):=
 ⟨λy=>by
  rw[insN_mem,h.mem];constructor
  ·rintro(⟨i,hi,e⟩ | rfl)
   ·exact⟨i,no,e⟩
   ·exact⟨k,no,C⟩
  ·rintro⟨i,hi,e⟩;rcases Bg i k with h3 | h3
   ·exact .inl ⟨i,h3,e⟩
   ·obtain rfl:i=k:=no
    rw[C]at e;injection e with e;exact .inr e.symm,insN_sort h.srt h1 h2,by rw[sG hp];have:=h.len;omega⟩
theorem take_ltG{α:Type}{r:α->α->Prop}(ht:∀a b c,r a b->r b c->r a c){l:List α}{x y:α}(hl:l.Pairwise r)(hy:l[p]? =some y)(h:r y x):∀z∈l.take (p+1),r z x:=by
 obtain⟨A,B,rfl,rfl⟩:=ei hy;intro z hz;rw[show(A++y::B).take (A.length+1)=A++ [y]by
  simp[List.take_append];exact FY no]at hz
 rcases AJ.1 hz with hz | hz
 ·exact ht _ _ _ ((DE.1 hl).2.2 z hz y (Bo ..)) h
 ·simp only[List.mem_singleton]at hz;subst hz;exact h
theorem take_lt{y:Nm}(hl:l.Pairwise jD)(hy:l[p]? =some y)(h:jD y x):∀z∈l.take (p+1),jD z x:=take_ltG (r:=jD) (λ_ _ _ h k=>List.lt_trans h k) hl hy h
theorem drop_at{α:Type}{l:List α}{q:Nat}{y z:α}(h:l[q]? =some y)(hz:z∈l.drop q):z=y\/z∈l.drop (q+1):=by
 obtain⟨i,hi⟩:=List.getElem?_of_mem hz;rw[Cw]at hi
 cases i with
 | zero=>rw[Nat.add_zero,h]at hi;injection hi with hi;exact .inl hi.symm
 | succ i=>exact .inr (A5 (i:=i) (by rw[Cw,show q+1+i=q+(i+1)by omega];exact hi))
theorem own_thaw{w:World}{T:TypeId}{g n c i j:Nat}{xs:List Value}(h:a8 w T 1 (.slice (some ⟨g,0,none⟩) n c) n xs):w.frozen? ⟨g,i,none⟩=false/\w.frozen? ⟨g,j,none⟩=false:=by
 rcases h.1.2 with⟨e,_⟩ | ⟨F,cap,cur,e,hb,C,_⟩
 ·cases e
 ·obtain rfl:g=F:=by injection e with e;injection e with e;injection e
  exact⟨by simp[Dp,C],by simp[Dp,C]⟩
set_option maxHeartbeats 4000000 in
theorem q_FramesR{w:World}{t:Nat}{v:Value}(h:RM w t v L)(hn:L.length<=1000000):AF AD 105 #[ptB t] w λe w'=>∃v' l,e= .returned v'/\SRow w' v' l/\(∀g,v'.ownBlock=some g->w.heap.size<=g)/\(∀x,x∈l↔aF (trR L) x)/\l.Pairwise jD/\mBw w w':=by
 have HM:=AE (show∀wq,mBw w wq->RM wq t v L from λwq k=>h.below k);obtain⟨ad,cp,hv⟩:=h.form;obtain⟨n,hN⟩:∃n,n=L.length:=⟨_,rfl⟩;have HN:=AE hN;rw[<-hN]at hv hn;subst hv;have bO:(n:Int)<=1000000:=no
 clear h hN hn;go_enter Tryz.func105,Tryz.ntmps105
 go_wp2;go_loopw [3,4] (λs3 s4 wr=>∃(k:Nat)(l:List Nm),k<=2*n/\s4= .int .i64 (k:Int)/\Hid (SRow wr s3 l)/\Hid (∀g,s3.ownBlock=some g->w.heap.size<=g)/\Hid (FrS L k l)/\Hid (mBw w wr)) (λ_ s4 _=>2*n - (intOf s4).toNat)
 case atStart=>exact⟨0,[],A3 _,rfl,AE ⟨Dz _ _ _ _,λg F=>by cases F⟩,AE (λg F=>by cases F),AE ⟨λx=>⟨λh=>(by cases h),λ⟨i,hi,_⟩=>absurd hi (Dd _)⟩,List.Pairwise.nil,A3 _⟩,AE (AH _ _)⟩
 case round=>
  obtain⟨k,l,hk,rfl,HW,HO,Z,Y⟩:=hrel;have a1:=(HM.out wr Y.out).cell;have a4:(l.length:Int)<=2000000:=by have:=Z.out.len;omega
  rcases Bg k (2*n)with bt | bb
  ·have bq:(k:Int)<2*(n:Int):=no
   obtain⟨j,hj⟩:∃j,k / 2=j:=⟨_,rfl⟩;have a3:j<n:=no
   have bp:(j:Int)<(n:Int):=no
   obtain⟨e0,U⟩:∃l,L[j]? =some l:=⟨_,AM (by rw[<-HN.out];exact a3)⟩;obtain⟨b,c2,cs,e,A⟩:=(HM.out wr Y.out).at U;injection e with e1 _ e3;subst e1;subst e3;have fc:=A.c;have fp:=A.par;have a5:(k:Int).tdiv 2=(j:Int):=by rw[Int.tdiv_eq_ediv_of_nonneg no];omega
   obtain⟨aa,J,rfl⟩:=cV HW.out.1;obtain⟨x,hx⟩:∃x,(if k % 2=1 then e0.x.par else e0.c)=x:=⟨_,rfl⟩;have HX:=AE (show nmE L k=some x by unfold nmE;rw[hj,U,BG,hx]);have a7:=AE U;obtain⟨m,hm⟩:∃m,l.length=m:=⟨_,rfl⟩;have C:=AE hm;have P:=AE (show a8 wr 9 1 (.slice aa m J) m (l.map Bc)by rw[<-hm];exact HW.out);have bz:(m:Int)<=2000000:=no
   rw[hm]at HW HO⊢;clear A U a4 HW hm;obtain hr | hr:k % 2=0\/k % 2=1:=no
   all_goals first
    | (rw[if_neg no]at hx;have av:(k:Int).tmod 2=0:=(by rw[DX no];omega);rw[hx]at fc;clear hx hr;go_upto_region 8 with(fail))
    | (rw[if_pos hr]at hx;have av:(k:Int).tmod 2=1:=(by rw[DX no];omega);rw[hx]at fp;clear hx hr;go_upto_region 8 with(fail))
   all_goals
    clear fc fp a5 av a1;go_wp2;go_loopw [6,7] (λs6 s7 wq=>∃(i:Nat),i<=m/\s7= .int .i64 (i:Int)/\s6= .bool (decide (x∈l.take i))/\wq=wr) (λ_ s7 _=>m - (intOf s7).toNat)
    case atStart=>exact⟨0,A3 _,rfl,Ad,rfl⟩
    case round=>
     obtain⟨i,hi,rfl,rfl,a6⟩:=hrel;obtain rfl:=a6;rcases Bg i m with a2 | be
     ·have bi:(i:Int)<(m:Int):=no
      obtain⟨y,hy⟩:∃y,l[i]? =some y:=⟨_,AM (by rw[C.out];exact a2)⟩;obtain⟨g,F,a9⟩:=di P.out.1 (show(l.map Bc)[i]? =some (.string y)by rw[Bp,hy];rfl);subst F;have HT:=AE (show∀z:Nm,z∈l.take (i+1)↔z∈l.take i\/z=y from λz=>by rw[EX,hy];simp);by_cases m1:x∈l.take i
      ·have H:decide (x∈l.take i)=true:=decide_eq_true m1;have HD:=AE (show decide (x∈l.take (i+1))=true from decide_eq_true ((HT.out x).2 (.inl m1)));rw[H];clear m1 hy H;go_wp2;go_roundw
       case rel=>exact⟨i+1,no,by go_num,by rw[HD.out],by trivial⟩
       case measure=>simp[intOf];omega
      ·have H:decide (x∈l.take i)=false:=decide_eq_false m1;rw[H];by_cases m2:y=x
       ·have q1:=kV m2;have HD:=AE (show decide (x∈l.take (i+1))=true from decide_eq_true ((HT.out x).2 (.inr m2.symm)));clear m1 m2 hy H;go_wp2;go_roundw
        case rel=>exact⟨i+1,no,by go_num,by rw[HD.out],by trivial⟩
        case measure=>simp[intOf];omega
       ·have q1:=gW m2;have HD:=AE (show decide (x∈l.take (i+1))=false from decide_eq_false (λh=>((HT.out x).1 h).elim m1 (λe=>m2 e.symm)));clear m1 m2 hy H;go_wp2;go_roundw
        case rel=>exact⟨i+1,no,by go_num,by rw[HD.out],by trivial⟩
        case measure=>simp[intOf];omega
     ·obtain rfl:i=m:=no
      have ac:l.take i=l:=by rw[<-C.out,Fj]
      rw[ac];by_cases m1:x∈l
      ·have I:=AE (Z.out.same HX.out m1);rw[decide_eq_true m1];clear m1 ac;go_wp2;go_roundw
       case rel=>exact⟨k+1,l,no,by go_num,AE (by show a8 _ _ _ _ l.length _;rw[C.out];exact P.out),HO,I,Y⟩
       case measure=>simp[intOf];omega
      ·rw[decide_eq_false m1];have ax:=AE m1;clear m1 ac;go_upto_region 14 with(fail)
       refine Bn ?_;have ar:∀(j:Nat)(u:Value),[Bc x][j]? =some u->(wr.alloc (.cells #[.string x] 9)).cell? ((⟨wr.heap.size,0,none⟩:A0).add j)=some u:=λj u hu=>by
        rw[bQ,A7,aH (Bs wr _)]
        cases j with
        | zero=>simpa using hu
        | succ j=>simp at hu
       obtain⟨v5,w5,V,aq,ao,ap⟩:=srow_app (ty:=68) (x:=x) (l:=l) (v:=.slice aa i J) (w:=wr.alloc (.cells #[.string x] 9)) (by show a8 _ _ _ _ l.length _;rw[C.out];exact P.out.keep (λg F=>EZ wr _ (cf P.out.1 F).2)) (by rw[C.out];omega) ar (Y.out.alloc Y.out.size _) (by rw[asz];have:=Y.out.size;omega) HO.out;have ab:a8 w5 9 1 v5 (i+1) ((l++ [x]).map Bc):=by
        have:a8 w5 9 1 v5 (l++ [x]).length ((l++ [x]).map Bc):=aq;rwa [Bj,C.out]at this
       obtain⟨g5,an,rfl⟩:∃g cap,v5= .slice (some ⟨g,0,none⟩) (i+1) cap:=by
        rcases ab.1.2 with⟨_,h⟩ | ⟨g,cap,cur,e,_⟩
        ·cases h
        ·exact⟨g,cap,e⟩
       have ay:=AE ab;have ak:=AE ao;have K:=AE ap;have am:=AE V;clear aq ab ao ap ar V;refine ae rfl (v:=.slice aa i J) (w':=wr) Af ?_;refine ae rfl (v:=.string x) (w':=wr) Af ?_;refine ae rfl (v:=.slice (some ⟨wr.heap.size,0,none⟩) 1 1) (w':=wr.alloc (.cells #[.string x] 9)) Ah ?_;refine jk rfl rfl rfl rfl am.out ?_;go_wp2;go_loopw [8,9] (λs8 _ wq=>∃p,p<=i/\s8= .int .i64 (p:Int)/\Hid (a8 wq 9 1 (.slice (some ⟨g5,0,none⟩) (i+1) an) (i+1) ((fB l x p).map Bc))/\Hid (∀z∈l.drop p,jD x z)/\Hid (mBw w wq)) (λs8 _ _=>(intOf s8).toNat)
       case atStart=>exact⟨i,AI _,by go_num,AE (by rw[<-C.out,insN_end,C.out];exact ay.out),AE (λz hz=>by rw[<-C.out,List.drop_length]at hz;cases hz),ak⟩
       case round=>
        obtain⟨p,hp,rfl,HR,HZ,HQ⟩:=hrel;clear ak
        cases p with
        | zero=>
         go_upto_region 16 with(fail)
         go_quiet (fail)
         have I:=AE (Z.out.add HX.out (A3 _) HZ.out (λz hz=>by rw[List.take_zero]at hz;cases hz));go_wp2;go_roundw
         case rel=>exact⟨k+1,fB l x 0,no,by go_num,AE (by show a8 _ _ _ _ (fB l x 0).length _;rw[sG (A3 _),C.out];exact HR.out.keep (λg _=>rfl)),K,I,AE (aN HQ.out _)⟩
         case measure=>simp[intOf];omega
        | succ q=>
         have hq0:decide (0<((q+1:Nat):Int))=true:=decide_eq_true no;obtain⟨y,hy⟩:∃y,l[q]? =some y:=⟨_,AM (by rw[C.out];omega)⟩;obtain⟨g,F,c1⟩:=di HR.out.1 (show((fB l x (q+1)).map Bc)[q+1]? =some (.string x)by rw[Bp,insN_at (by rw[C.out];exact hp)];rfl);obtain rfl:g5=g:=by injection F with F;injection F with F
         obtain⟨g,G,c0⟩:=di HR.out.1 (show((fB l x (q+1)).map Bc)[q]? =some (.string y)by rw[Bp,insN_bef hy];rfl);obtain rfl:g5=g:=by injection G with G;injection G with G
         have b0:((q+1:Nat):Int) - 1=(q:Int):=no
         have HY:=AE hy;have au:=less_nm x y;by_cases m2:jD x y
         ·rw[decide_eq_true m2]at au;have a0:=AE (show∀z∈l.drop q,jD x z from λz hz=>(drop_at HY.out hz).elim (λe=>e▸m2) (HZ.out z));obtain⟨b2,b1⟩:wr.frozen? ⟨g5,q+1,none⟩=false/\wr.frozen? ⟨g5,q,none⟩=false:=own_thaw HR.out;clear m2 hy F G;go_upto_region 16 with(fail)
          go_quiet (fail)
          go_wp2;go_roundw
          case rel=>exact⟨q,no,by go_num,AE (by
           have h1:=acE (acE (HR.out.keep (w':=wr.drewN nq) (λg _=>rfl)) (show q+1<i+1 by omega) (mG y)) (show q<i+1 by omega) (mG x);rw[<-List.map_set,<-List.map_set,insN_step HY.out]at h1;exact h1),a0,AE (((aN HQ.out nq).setCell (p:=⟨g5,q+1,none⟩) (K.out _ rfl) _).setCell (p:=⟨g5,q,none⟩) (K.out _ rfl) _)⟩
          case measure=>simp[intOf]
         ·rw[decide_eq_false m2]at au;have I:=AE (Z.out.add HX.out (by rw[C.out];exact hp) HZ.out (take_lt Z.out.srt hy (nmlt_or (λe=>ax.out (e▸A5 hy)) m2)));clear m2 hy F G;go_upto_region 16 with(fail)
          go_quiet (fail)
          go_wp2;go_roundw
          case rel=>exact⟨k+1,fB l x (q+1),no,by go_num,AE (by show a8 _ _ _ _ (fB l x (q+1)).length _;rw[sG (by rw[C.out];exact hp),C.out];exact HR.out.keep (λg _=>rfl)),K,I,AE (aN HQ.out _)⟩
          case measure=>simp[intOf];omega
  ·obtain rfl:k=2*n:=no
   have HK:=AE (show∀x,x∈l↔aF (trR L) x from λx=>by rw[Z.out.mem,HN.out,nmE_known]);go_wp2;go_ret;exact⟨_,l,rfl,HW.out,HO.out,HK.out,Z.out.srt,Y.out⟩
end
section
open Classical
structure RPost(w:World)(t:Nat)(v:Value)(L:List Rl)(w':World)(v':Value)(L':List Rl):Prop where
 rm:RM w' t v' L'
 kp:Kp w (fpR t v L) w'
 fp:∀g∈fpR t v' L',g∈fpR t v L\/w.heap.size<=g
section
variable {w w':World} {t:Nat} {v:Value} {L:List Rl} {l l':Rl} {A B:List Rl}
theorem RPost.refl(h:RM w t v L)(hb:AW w.heap.size w w'):RPost w t v L w' v L:=⟨h.below hb,.of_below hb,λ_ h=>.inl h⟩
theorem acF(A B:List Rl):rlQ (A++B)=rlQ A++rlQ B:=by unfold rlQ;rw[DF]
theorem mH(A B:List Rl)(l:Rl):rlQ (A++l::B)=rlQ A++(l.qs++rlQ B):=by rw[acF];rfl
theorem kH(A B:List Rl)(l:Rl):trR (A++l::B)=trR A++(l.c,l.x)::trR B:=by unfold trR;rw[Cl];rfl
theorem fpR_mid(A B:List Rl)(h1:l'.g=l.g)(h2:l'.sl=l.sl):fpR t v (A++l'::B)=fpR t v (A++l::B):=by
 unfold fpR;simp only[DF,Cx,h1,h2]
theorem aO.mid{H I qs F:List Vp}{xs ys:List Value}(h:aO w (H++(qs++I)) xs)(hl:F.length=qs.length)(hy:aO w' F ys)(hc:∀(j:Nat)(q:Vp)(u:Value),(∀g,¬q.fp w u g)->q.p w u->q.p w' u/\∀g,¬q.fp w' u g):aO w' (H++(F++I)) (xs.take H.length++ys++xs.drop (H.length+qs.length)):=by
 have J:=h.1;simp only[Bj]at J;have get:∀(j:Nat)(q:Vp),(H++(qs++I))[j]? =some q->∃u,xs[j]? =some u/\q.p w' u/\∀g,¬q.fp w' u g:=λj q C=>by
  obtain⟨u,G,k2,k3⟩:=h.2 j q C;exact⟨u,G,hc j q u k3 k2⟩
 refine⟨by have:=hy.1;simp only[Bj,A9,CB];omega,λj q C=> ?_⟩;have K:=hy.1;by_cases h1:j<H.length
 ·rw[BB h1]at C;obtain⟨u,G,k2⟩:=get j q (by rw[BB h1];exact C);refine⟨u,?_,k2⟩;rw[BB (by rw[Bj,A9];omega),BB (by rw[A9];omega),BJ,if_pos h1];exact G
 ·rw[Bw no]at C;by_cases h2:j - H.length<F.length
  ·rw[BB h2]at C;obtain⟨u,G,k2⟩:=hy.2 _ q C;refine⟨u,?_,k2⟩;rw[BB (by rw[Bj,A9];omega),Bw (by rw[A9];omega),A9,Fy no];exact G
  ·rw[Bw no]at C;obtain⟨u,G,k2⟩:=get j q (by rw[Bw no,Bw no,<-hl];exact C);refine⟨u,?_,k2⟩;rw[Bw (by rw[Bj,A9];omega),Bj,A9,Cw,Fy no,<-G]
   congr 1;omega
theorem cB{A B:List Nat}(h:(A++B).Nodup){x:Nat}(h1:x∈A)(h2:x∈B):False:=(BN.1 h).2.2 x h1 x h2 rfl
theorem RM.setL(h:RM w t v (A++l::B)){b c:Nat}(hv:v= .slice (some ⟨b,0,none⟩) (A++l::B).length c)(u:Upd w b w')(hr:∀xs,a8 w rlT 27 v (A++l::B).length xs->aO w (rlQ (A++l::B)) xs->∃ys,a8 w' rlT 27 v (A++l::B).length (xs.take (rlQ A).length++ys++xs.drop ((rlQ A).length+l.qs.length))/\aO w' l'.qs ys)
  (V:l'.g=l.g)(hs:l'.sl=l.sl)(ht:l'.x.tr=l.x.tr):RPost w t v (A++l::B) w' v (A++l'::B):=by
 have hb:b∈fpR t v (A++l::B):=by rw[hv];simp[fpR,Cy]
 have I:=h.nd;have ab:v.ownBlock=some b:=by rw[hv];rfl
 have P:t≠b/\∀F∈A++l::B,b≠F.g/\∀Y,F.sl.ownBlock=some Y->Y≠b:=by
  unfold fpR at I;rw[ab]at I;obtain⟨a1,a2⟩:=Bz.1 I;refine⟨λe=>a1 (e▸Ad),λF C=>⟨λe=>cB a2 (x:=b) Ad (Br.2 ⟨F,C,by simp[e]⟩),λY J e=>cB a2 (x:=b) Ad (Br.2 ⟨F,C,by simp[J,e]⟩)⟩⟩
 have Z:Chg w w' (· =b):=.upd (h.own _ hb) u;have aa:(A++l'::B).length=(A++l::B).length:=Ad
 have K:fpR t v (A++l'::B)=fpR t v (A++l::B):=fpR_mid A B V hs;have H:∀F∈A++l::B,TrkS rkT w' F.g F.sl F.x.tr:=λF C=>(h.trk F C).chg Z (λe=>(P.2 F C).1 e.symm) (λY J=>(P.2 F C).2 Y J)
 refine⟨⟨by rw[u.block t P.1];exact h.tr,?_,λF C=> ?_,by rw[K];exact I,λg G=> ?_⟩,.upd u hb,λg G=>.inl (by rw[K]at G;exact G)⟩
 ·obtain⟨xs,k1,k2⟩:=h.row;obtain⟨ys,U,hy⟩:=hr xs k1 k2;refine⟨_,by rw[aa];exact U,?_⟩;rw[mH]at k2⊢;exact k2.mid (by rw[gG,gG]) hy (λ_ q y hf hp=>by
   obtain⟨c1,c2⟩:=q.ch w w' _ y hp Z (λg V=>absurd V (hf g));exact⟨c1,λg V=>hf g (c2 g V)⟩)
 ·rcases AJ.1 C with C | C
  ·exact H F (AJ.2 (.inl C))
  ·rcases AY.1 C with rfl | C
   ·rw[V,hs,ht];exact H l Ad
   ·exact H F (by simp[C])
 ·rw[K]at G;by_cases e:g=b
  ·subst e;obtain⟨xs,k1,k2⟩:=h.row;obtain⟨ys,U,_⟩:=hr xs k1 k2;obtain⟨cs,T,k3,k4⟩:=U.2 g ab;exact .mk' k3 k4
  ·exact(h.own g G).blk (u.block g e) (by rw[u.size];exact AI _)
end
def j7(xs:List Value):Nat->List Value->List Value
 | _,[]=>xs
 | o,u::us=>j7 (xs.set o u) (o+1) us
theorem ot:∀(us:List Value)(xs:List Value)(o:Nat),(j7 xs o us).length=xs.length
 | [],_,_=>rfl
 | u::us,xs,o=>by rw[j7,ot];simp
theorem kI:∀(us:List Value)(xs:List Value)(o j:Nat),o+us.length<=xs.length->(j7 xs o us)[j]? =if o<=j/\j<o+us.length then us[j - o]? else xs[j]?
 | [],xs,o,j,_=>by rw[j7,if_neg (by simp only[Dc];omega)]
 | u::us,xs,o,j,h=>by
  simp only[Bh]at h⊢;rw[j7,kI us _ _ _ (by simp;omega),List.getElem?_set];by_cases h1:o+1<=j/\j<o+1+us.length
  ·rw[if_pos h1,if_pos no,show j - o=(j - (o+1))+1 by omega];rfl
  ·rw[if_neg h1];by_cases h2:o=j
   ·subst h2;rw[if_pos rfl,if_pos no,if_pos no,Dk];rfl
   ·rw[if_neg h2,if_neg no]
theorem setsL_mid(xs us:List Value)(n m o:Nat)(h:o+us.length<=m)(hl:n+m<=xs.length):j7 xs (n+o) us=xs.take n++j7 ((xs.drop n).take m) o us++xs.drop (n+m):=by
 have F:((xs.drop n).take m).length=m:=by rw[A9,CB];omega
 refine List.ext_getElem? (λj=> ?_);rw[kI _ _ _ _ no];have C:=ot us ((xs.drop n).take m) o;by_cases h1:j<n
 ·rw[if_neg no,BB (by rw[Bj,A9];omega),BB (by rw[A9];omega),BJ,if_pos h1]
 ·by_cases h2:j<n+m
  ·rw[BB (by rw[Bj,A9];omega),Bw (by rw[A9];omega),A9,Fy no,kI _ _ _ _ no];by_cases h3:o<=j - n/\j - n<o+us.length
   ·rw[if_pos h3,if_pos no];congr 1;omega
   ·rw[if_neg h3,if_neg no,BJ,if_pos no,Cw];congr 1;omega
  ·rw[if_neg no,Bw (by rw[Bj,A9];omega),Bj,A9,Cw,Fy no];congr 1;omega
theorem y7{T:TypeId}{sz g n c:Nat}:∀(us:List Value)(w:World)(xs:List Value)(o:Nat),a8 w T sz (.slice (some ⟨g,0,none⟩) n c) n xs->(∀u∈us,noU u)->a8 (w.setCells g o us) T sz (.slice (some ⟨g,0,none⟩) n c) n (j7 xs o us)
 | [],_,_,_,h,_=>h
 | u::us,w,xs,o,h,hu=>y7 us _ _ _ (y6 h (hu u (Bo ..))) (λy hy=>hu y (Bi _ hy))
theorem abd{w w':World}{qs C:List Vp}{cs us:List Value}{o:Nat}(h:aO w qs cs)(hl:C.length=qs.length)(G:o+us.length<=qs.length)(h1:∀(j:Nat)(q:Vp),j<us.length->C[o+j]? =some q->∃u,us[j]? =some u/\q.p w' u/\∀g,¬q.fp w' u g)(h2:∀j,j<o\/o+us.length<=j->C[j]? =qs[j]?)
  (hc:∀(q:Vp)(u:Value),(∀g,¬q.fp w u g)->q.p w u->q.p w' u/\∀g,¬q.fp w' u g):aO w' C (j7 cs o us):=by
 refine⟨by rw[ot,h.1,hl],λj q F=> ?_⟩;rw[kI _ _ _ _ (by rw[h.1];exact G)];by_cases h3:o<=j/\j<o+us.length
 ·rw[if_pos h3];exact h1 (j - o) q no (by rw[show o+(j - o)=j by omega];exact F)
 ·rw[if_neg h3];rw[h2 j no]at F;obtain⟨u,H,k2,k3⟩:=h.2 j q F;exact⟨u,H,hc q u k3 k2⟩
theorem aO.cut{w:World}{F J qs:List Vp}{xs:List Value}(h:aO w (F++(qs++J)) xs):aO w qs ((xs.drop F.length).take qs.length):=by
 have H:=h.1;simp only[Bj]at H;refine⟨by rw[A9,CB];omega,λj q G=> ?_⟩;have C:=(A1.1 G).1;obtain⟨u,I,k2⟩:=h.2 (F.length+j) q (by rw[Bw no,Ez,BB C];exact G);exact⟨u,by rw[BJ,if_pos C,Cw];exact I,k2⟩
end
section
open Classical
variable{w:World}{t:Nat}
theorem RM.put{v:Value}{l l':Rl}{A B:List Rl}(h:RM w t v (A++l::B)){b c:Nat}(H:v= .slice (some ⟨b,0,none⟩) (A++l::B).length c){us:List Value}{o:Nat}(I:o+us.length<=27)(P:∀u∈us,noU u)(F:l'.g=l.g)(hs:l'.sl=l.sl)(ht:l'.x.tr=l.x.tr)
  (h1:∀(w':World),Chg w w' (· =b)->∀(j:Nat)(q:Vp),j<us.length->l'.qs[o+j]? =some q->∃u,us[j]? =some u/\q.p w' u/\∀g,¬q.fp w' u g)(h2:∀j,j<o\/o+us.length<=j->l'.qs[j]? =l.qs[j]?):
  RPost w t v (A++l::B) (w.setCells b (A.length*27+o) us) v (A++l'::B):=by
 have G:Upd w b (w.setCells b (A.length*27+o) us):=cA us w b _;have C:Chg w (w.setCells b (A.length*27+o) us) (· =b):=.upd (h.own b (by rw[H];simp[fpR,Cy])) G;refine h.setL H G (λxs K k2=>⟨j7 ((xs.drop (rlQ A).length).take l.qs.length) o us,?_,?_⟩) F hs ht
 ·have J:=k2.1;rw[mH]at J;simp only[Bj]at J;rw[<-setsL_mid _ _ _ _ _ (by rw[gG];exact I) no,qK];rw[H]at K⊢;exact y7 us w xs _ K P
 ·rw[mH]at k2;exact abd k2.cut (by rw[gG,gG]) (by rw[gG];exact I) (h1 _ C) h2 (λq y hf hp=>by
   obtain⟨c1,c2⟩:=q.ch w _ _ y hp C (λg F=>absurd F (hf g));exact⟨c1,λg F=>hf g (c2 g F)⟩)
variable{L:List Rl}
theorem RM.thaw{b n c i:Nat}(h:RM w t (.slice (some ⟨b,0,none⟩) n c) L)(hn:0<L.length):w.frozen? ⟨b,i,none⟩=false:=by
 obtain⟨xs,⟨⟨_,h2⟩,_⟩,_⟩:=h.row;rcases h2 with⟨e,_⟩ | ⟨C,cap,cur,e,_,F,_⟩
 ·cases e
 ·obtain rfl:b=C:=by injection e with e;injection e with e;injection e
  simp[Dp,F]
theorem ws{c:Nm}{i:Int}(h:OpS L c i):(i= -1/\sd (trR L) c)\/∃(A B:List Rl)(l:Rl),i=(A.length:Int)/\L=A++l::B/\l.c=c/\eT (trR L) c A.length l.x:=by
 rcases h with h | ⟨k,l,h1,h2,h3,G⟩
 ·exact .inl h
 ·obtain⟨A,B,C,F⟩:=ei h2;subst F;exact .inr ⟨A,B,l,h1,C,h3,G⟩
set_option maxHeartbeats 2000000 in
theorem q_DetachR{v:Value}(h:RM w t v L)(c:Nm)(u:Int)(hn:L.length<=1000000):
  AF AD 92 #[ptB t,.string c,.int .i64 u] w λe w'=>∃v' L' F,e= .returned (.int .i64 F)/\RPost w t v L w' v' L'/\DetS (trR L) c u (trR L') F:=by
 have P:=wm h c hn;have J:=AE h;obtain⟨ad,Z,hv⟩:=h.form;obtain⟨n,hN⟩:∃n,n=L.length:=⟨_,rfl⟩;have Y:=AE hN;rw[<-hN]at hv hn;subst hv;have ak:(n:Int)<=1000000:=no
 have ab:=h.cell;clear h hN hn;go_enter Tryz.func92,Tryz.ntmps92
 go_upto_if 12 with(go_at_call 155;refine P.mono ?_;rintro e w1 ⟨i,rfl,hi,hw⟩;obtain rfl:=hw.symm;have HP:=AE (ws hi);clear P hi)
 rcases HP.out with⟨hi,hp⟩ | ⟨A,B,l,hi,hL,hc,hp⟩
 ·subst hi;have K:=AE (DetS.none (u:=u) hp);clear hp;go_wp2;go_ret;exact⟨_,L,6,rfl,.refl J.out (AH _ _),K.out⟩
 ·subst hi;obtain⟨k,U⟩:∃k,A.length=k:=⟨_,rfl⟩;rw[U];have I:L[k]? =some l:=by rw[hL,<-U,Bw (AI _),Dk];rfl
  have aa:=(A1.1 I).1;have ac:(k:Int)<(n:Int):=by rw[Y.out];omega
  have q0:decide ((k:Int)<0)=false:=decide_eq_false no;obtain⟨b,c2,cs,e,V⟩:=J.out.at I;injection e with e1 _ e3;subst e1;subst e3;have ff:=V.fr;have fu:=V.un;have hz:w.frozen? ⟨b,k*27+3,none⟩=false:=J.out.thaw no;have C:=AE hL;have HK:=AE U;have G:=AE hp;have HC:=AE hc;clear V I aa hL U hp hc;by_cases g1:u<=l.x.fr
  ·have q1:decide (u<=l.x.fr)=true:=decide_eq_true g1;have K:=AE (DetS.time G.out (.inl g1));clear g1;go_wp2;go_ret;exact⟨_,L,17,rfl,.refl J.out (AH _ _),K.out⟩
  ·have q1:decide (u<=l.x.fr)=false:=decide_eq_false g1;by_cases g2:dX<u
   ·have q2:decide ((1099511627776:Int)<u)=true:=decide_eq_true g2;have K:=AE (DetS.time G.out (.inr g2));clear g1 g2;go_wp2;go_ret;exact⟨_,L,17,rfl,.refl J.out (AH _ _),K.out⟩
   ·have q2:decide ((1099511627776:Int)<u)=false:=decide_eq_false g2;have HG:=AE (BA g1 g2);clear g1 g2;go_wp2;go_ret;have hR:RPost w t (.slice (some ⟨b,0,none⟩) n Z) (A++l::B) (w.setCells b (A.length*27+3) [.int .i64 u]) (.slice (some ⟨b,0,none⟩) n Z) (A++ {l with x:= {l.x with un:=u}}::B):=
     RM.put (h:=by rw[<-C.out];exact J.out) (c:=Z) (by rw[Y.out,C.out]) (us:=[.int .i64 u]) (o:=3) Ad (λy hy n e=>by simp at hy;subst hy;cases e) rfl rfl rfl
      (λw' _ j q H hq=>by
       obtain rfl:j=0:=by simpa using H
       have:q= .val (.int .i64 u):=by
        have e:(some (Vp.val (.int .i64 u)):Option Vp)=some q:=hq;injection e with e;exact e.symm
       subst this;exact⟨_,rfl,⟨rfl,cw⟩,λ_ h=>h⟩)
      (λj H=>by
       rcases H with H | H
       ·match j,H with
        | 0,_=>rfl
        | 1,_=>rfl
        | 2,_=>rfl
       ·obtain⟨i,rfl⟩:∃i,j=i+4:=⟨j - 4,by simp at H;omega⟩;rfl)
    have hD:DetS (trR L) c u (trR (A++ {l with x:= {l.x with un:=u}}::B)) 0:=by
     rw[C.out,kH,kH,HC.out];exact .ok (x:=l.x) rfl G.out.2 (by have:=HG.out.1;omega) (by have:=HG.out.2;unfold dX at this⊢;omega)
    obtain rfl:=HK.out;obtain rfl:=C.out;obtain rfl:=Y.out;exact⟨_,_,0,rfl,hR,hD⟩
end
section
open Classical
theorem sH{X Y:List Nat}{o o':Option Nat}(h:(X++(o.toList++Y)).Nodup)(hb:∀b,o'=some b->o=some b\/b∉X++Y):(X++(o'.toList++Y)).Nodup:=by
 have h0:(X++Y).Nodup:=h.sublist ((List.Sublist.refl X).append (List.sublist_append_right _ _))
 cases o' with
 | none=>exact h0
 | some b=>
  rcases hb b rfl with e | e
  ·rw[e]at h;exact h
  ·show(X++b::Y).Nodup;exact(List.perm_middle.nodup_iff).2 (Bz.2 ⟨e,h0⟩)
abbrev Rl.setTr(l:Rl)(S':List St)(sl':Value):Rl:= {l with x:= {l.x with tr:=S'},sl:=sl'}
theorem RM.trkM{w w':World}{t:Nat}{v:Value}{A B:List Rl}{l:Rl}{S':List St}(h:RM w t v (A++l::B))(hM:TrkM rkT w l.g l.sl S' w'):∃sl',RPost w t v (A++l::B) w' v (A++l.setTr S' sl'::B):=by
 obtain⟨⟨sl',hS,hb⟩,J⟩:=hM;have Y:∀C∈A++l::B,C.g∈fpR t v (A++l::B)/\∀b,C.sl.ownBlock=some b->b∈fpR t v (A++l::B):=λC H=>
  ⟨Bi _ (AJ.2 (.inr (Br.2 ⟨C,H,Ad⟩))),λb hb=>Bi _ (AJ.2 (.inr (Br.2 ⟨C,H,by simp[hb]⟩)))⟩
 have V:l.g∈fpR t v (A++l::B):=(Y l Ad).1;have hc:Chg w w' (· =l.g):=⟨J.size,λg G hn=>J.block g G hn,λg G=>h.own g (by rw[show g=l.g from G];exact V)⟩;have e0:∀(C:Rl),fpR t v (A++C::B)=(t::(v.ownBlock.toList++(A.flatMap λl=>l.g::l.sl.ownBlock.toList))++ [C.g])++(C.sl.ownBlock.toList++B.flatMap λl=>l.g::l.sl.ownBlock.toList):=λC=>by simp[fpR]
 have I:=h.nd;rw[e0]at I;have K:∀g∈fpR t v (A++l::B),g<w.heap.size:=h.lt;have hX:∀b,w.heap.size<=b->b∉(t::(v.ownBlock.toList++(A.flatMap λl=>l.g::l.sl.ownBlock.toList))++ [l.g])++B.flatMap λl=>l.g::l.sl.ownBlock.toList:=λb hb P=>by
  have:=K b (by
   rw[e0];simp only[AJ]at P⊢;rcases P with P | P
   ·exact .inl P
   ·exact .inr (.inr P))
  omega
 have Z:=sH I (o':=sl'.ownBlock) (λb e=>(hb b e).imp id (λk=>hX b k.1));have ab:t≠l.g:=λe=>cB ((BN.1 I).1) (x:=t) Ad (by simp[e])
 have ac:∀b,v.ownBlock=some b->b≠l.g:=λb e1 e2=>cB ((BN.1 I).1) (x:=b) (by simp[e1]) (by simp[e2])
 have F:∀C∈A++B,C.g≠l.g/\∀b,C.sl.ownBlock=some b->b≠l.g:=λC H=>by
  have key:∀b,b∈C.g::C.sl.ownBlock.toList->b≠l.g:=λb hb e=>by
   rcases AJ.1 H with k | k
   ·exact cB ((BN.1 I).1) (x:=b) (Bi _ (AJ.2 (.inr (Br.2 ⟨C,k,hb⟩)))) (by simp[e])
   ·exact cB I (x:=b) (by simp[e]) (AJ.2 (.inr (Br.2 ⟨C,k,hb⟩)))
  exact⟨key _ Ad,λb e=>key _ (by simp[e])⟩
 have aa:=(Vp.row stT S'.length (bB S')).fl w' _ hS.row;have U:∀g∈fpR t v (A++l.setTr S' sl'::B),g∈fpR t v (A++l::B)\/(w.heap.size<=g/\bv w' g):=λg G=>by
  rw[e0]at G⊢;simp only[AJ,Option.mem_toList]at G⊢;rcases G with G | G | G
  ·exact .inl (.inl G)
  ·rcases hb g G with k | k
   ·exact .inl (.inr (.inl k))
   ·exact .inr k
  ·exact .inl (.inr (.inr G))
 refine⟨sl',⟨by rw[hc.blk t (K t (by simp[fpR])) ab];exact h.tr,?_,λC H=> ?_,by rw[e0];exact Z,λg G=> ?_⟩,⟨J.os,J.tape,J.output,J.size,λg G hn=>J.block g G (λe=>hn (by rw[show g=l.g from e];exact V))⟩,λg G=>(U g G).imp id (·.1)⟩
 ·obtain⟨xs,k1,k2⟩:=h.row;have e1:rlQ (A++l.setTr S' sl'::B)=rlQ (A++l::B):=by rw[mH,mH];rfl
  have e2:(A++l.setTr S' sl'::B).length=(A++l::B).length:=Ad
  rw[e1,e2];exact((Vp.ownr rlT 27 (A++l::B).length (rlQ (A++l::B))).ch w w' _ v ⟨xs,k1,k2⟩ hc (λg G=>ac g G)).1
 ·rcases AJ.1 H with k | k
  ·exact(h.trk C (AJ.2 (.inl k))).chg hc (F C (AJ.2 (.inl k))).1 (F C (AJ.2 (.inl k))).2
  ·rcases AY.1 k with rfl | k
   ·exact hS
   ·exact(h.trk C (by simp[k])).chg hc (F C (AJ.2 (.inr k))).1 (F C (AJ.2 (.inr k))).2
 ·by_cases e:g=l.g
  ·subst e;refine .mk' hS.blk (λk n J=> ?_)
   cases k with
   | zero=>simp at J;exact aa.2.2 n J
   | succ k=>simp at J
  ·rcases U g G with k | k
   ·exact(h.own g k).blk (hc.blk g (K g k) e) hc.size
   ·exact k.2
theorem plS_inv{L:List Rl}{c:Nm}{a i:Int}(h:PlS L c a i):(i= -1/\PlNo (trR L) c a)\/∃(A B:List Rl)(l:Rl),i=(A.length:Int)/\L=A++l::B/\l.c=c/\PlAt (trR L) c a A.length l.x:=by
 rcases h with h | ⟨k,l,h1,h2,h3,G⟩
 ·exact .inl h
 ·obtain⟨A,B,C,F⟩:=ei h2;subst F;exact .inr ⟨A,B,l,h1,C,h3,G⟩
end
section
open Classical
theorem RPost.pre{w F G:World}{t:Nat}{v v':Value}{L L':List Rl}(hb:AW w.heap.size w F)(h:RPost F t v L G v' L'):RPost w t v L G v' L':=
 ⟨h.rm,⟨h.kp.os.trans hb.os,h.kp.tape.trans hb.tape,h.kp.output.trans hb.output,AG hb.size h.kp.size,λk C hn=>(h.kp.block k (Bv C hb.size) hn).trans (hb.block k C)⟩,λg H=>(h.fp g H).imp id (λk=>AG hb.size k)⟩
set_option maxHeartbeats 400000 in
theorem q_SetR{w:World}{t:Nat}{v:Value}{L:List Rl}{c:Nm}{a:Int}{cs:List Value}(h:RM w t v L)(hn:L.length<=1000000)(hR:jU (lks (trR L) c))(hl:cs.length=21)(add:List St->List St×Int)
  (am:∀w' g sl S,(∃l∈L,S=l.x.tr)->AW w.heap.size w w'->TrkS rkT w' g sl S->AF AD 156 #[ptB g,stV a cs] w' λe bO=>e= .returned (.int .i64 (add S).2)/\TrkM rkT w' g sl (add S).1 bO):
  AF AD 93 #[ptB t,.string c,stV a cs] w λe w'=>∃v' L' F,e= .returned (.int .i64 F)/\RPost w t v L w' v' L'/\SetS add (trR L) c a (trR L') F:=by
 obtain⟨w1,a5⟩:∃w1,w.alloc (.cells (.int .i64 a::cs).toArray 120)=w1:=⟨_,rfl⟩;have ap:AW w.heap.size w w1:=by rw[<-a5];exact(AH _ _).alloc (AI _) _
 have I:w1.heap[w.heap.size]? =some (.cells (.int .i64 a::cs).toArray 120 (0,0)):=by rw[<-a5];exact Bs w _
 have a3:=mF (h.below ap) c a hn;generalize hB:w.heap.size=B0 at *;have ay:B0<w1.heap.size:=(A2.1 I).1;have bp:w1.cell? ⟨B0,0,none⟩=some (.int .i64 a):=by rw[aH I];rfl
 have HM:=AE h;have a6:=AE ap;have av:=AE I;have ao:=AE ay;have b0:=AE hB;have HR:=AE hR;have au:=AE am;have a7:=AE hl;obtain⟨ad,cp,hv⟩:=h.form;obtain⟨n,hN⟩:∃n,n=L.length:=⟨_,rfl⟩;have HN:=AE hN;rw[<-hN]at hv hn;subst hv;have b9:(n:Int)<=1000000:=no
 clear h hN hn ap I ay hR am hl;go_enter Tryz.func93,Tryz.ntmps93
 go_upto_if 14 with(go_at_call 96;refine a3.mono ?_;rintro e V ⟨i,rfl,hi,H⟩;have HW:=AE H;have HP:=AE (plS_inv hi);clear a3 hi H)
 have aq:AW w.heap.size w V:=by rw[hB];exact a6.out.trans (HW.out.mono (by have:=ao.out;omega))
 have J:=AE aq;have a1:=(HM.out.below aq).cell;clear aq;rcases HP.out with⟨hi,hp⟩ | ⟨A,B,l,hi,hL,hc,hp⟩
 ·subst hi;have HQ:=AE (SetS.none (add:=add) hp.tAt);clear hp;go_wp2;go_ret;exact⟨_,L,18,rfl,.refl HM.out J.out,HQ.out⟩
 ·subst hi;obtain⟨k,hk⟩:∃k,A.length=k:=⟨_,rfl⟩;rw[hk];have U:L[k]? =some l:=by rw[hL,<-hk,Bw (AI _),Dk];rfl
  have a2:=(A1.1 U).1;have b8:(k:Int)<(n:Int):=by rw[HN.out];omega
  have q0:decide ((k:Int)<0)=false:=decide_eq_false no;have ac:=hp.tAt HR.out;have Z:=HM.out.below J.out;obtain⟨b,c2,b2,e,AT⟩:=Z.at U;injection e with e1 e2 e3;subst e1;subst e3;clear e2;have fst:=AT.st;have ax:=AT.tp;have P:=AE hL;have HK:=AE hk;have be:=AE ac;have HC:=AE hc;have b1:=AE U;have G:∀j,V.cell? ⟨B0,j,none⟩=w1.cell? ⟨B0,j,none⟩:=λj=>Cb (HW.out.block B0 ao.out)
  have a9:=AE Z
  cases hx:l.x.st with
  | true=>
   rw[hx]at fst;have HQ:=AE (SetS.still (add:=add) ac hx);clear AT U a2 hL hk hp hc ac hx G Z;go_wp2;go_ret;exact⟨_,L,10,rfl,.refl HM.out J.out,HQ.out⟩
  | false=>
   rw[hx]at fst;have HX:=AE hx;have a4:V.rangeAt B0 0 (.int .i64 a::cs):=λj v hv=>by rw[G,aH av.out,A7];simpa using hv
   have bt:(AD.info? 120).map (·.size)=some (.int .i64 a::cs:List Value).length:=by rw[Bh,a7.out];kernel_rfl
   clear AT U a2 hL hk hp hc ac hx G Z;have aa:RM V.drew t (.slice (some ⟨b,0,none⟩) n cp) (A++l::B):=by rw[<-P.out];exact a9.out.below (AH _ _).drew
   have ak:=au.out V.drew l.g l.sl l.x.tr ⟨l,(by rw[P.out];simp),rfl⟩ (by rw[<-hB];exact J.out.drew) (aa.trk l Ad);have HA:=AE ak;have bb:=AE (show∀w3,TrkM rkT V.drew l.g l.sl (add l.x.tr).1 w3->w3.cell? ⟨t,0,none⟩=V.cell? ⟨t,0,none⟩/\(∀j,w3.cell? ⟨b,j,none⟩=V.cell? ⟨b,j,none⟩)/\(∀j,w3.cell? ⟨B0,j,none⟩=V.cell? ⟨B0,j,none⟩)/\∃v' L' F,BF (.int .i64 (add l.x.tr).2)= .returned (.int .i64 F)/\RPost w t (.slice (some ⟨b,0,none⟩) n cp) L w3 v' L'/\SetS add (trR L) c a (trR L') F from λw3 hM=>by
    have ab:=aa.nd;have ar:=HM.out.lt;have bq:l.g∈fpR t (.slice (some ⟨b,0,none⟩) n cp) L:=by rw[P.out];exact Bi _ (AJ.2 (.inr (Br.2 ⟨l,Ad,Ad⟩)))
    have bi:b∈fpR t (.slice (some ⟨b,0,none⟩) n cp) L:=by simp[fpR,Cy]
    have bz:t∈fpR t (.slice (some ⟨b,0,none⟩) n cp) L:=by simp[fpR]
    have an:w.heap.size<=V.heap.size:=J.out.size;have a0:B0<V.heap.size:=Bv ao.out HW.out.size;have n1:t≠l.g:=λe=>by
     unfold fpR at ab;exact(Bz.1 ab).1 (by rw[e];exact AJ.2 (.inr (Br.2 ⟨l,Ad,Ad⟩)))
    have n2:b≠l.g:=λe=>by
     unfold fpR at ab;exact cB (Bz.1 ab).2 (x:=b) (by simp[Cy]) (Br.2 ⟨l,Ad,by simp[e]⟩)
    have n3:B0≠l.g:=λe=>by have:=ar _ bq;omega
    refine⟨Cb (hM.kept.block t (Bv (ar _ bz) an) n1),λj=>Cb (hM.kept.block b (Bv (ar _ bi) an) n2),λj=>Cb (hM.kept.block B0 a0 n3),?_⟩;obtain⟨sl',hP⟩:=aa.trkM hM;refine⟨_,_,_,rfl,RPost.pre J.out.drew (by rw[P.out];exact hP),?_⟩;rw[kH,HC.out];exact .ok (by rw[P.out,kH,HC.out]) be.out HX.out)
   clear aa ak;generalize l.g=lg at *;generalize (add l.x.tr).2=F at *;go_upto_region 6 with(fail)
   refine Df (S:=λw'=>w'.cell? ⟨t,0,none⟩=some (.slice (some ⟨b,0,none⟩) n cp)/\w'.cell? ⟨b,k*27+26,none⟩=some (ptB lg)/\w'.rangeAt B0 0 (.int .i64 a::cs)) Aa ⟨by simpa using a1,by simpa using ax,by simpa using a4⟩ (λC=> ?_);refine BM (i:=8) (v:=stV a cs) rfl Aa Aa Aa (λ_ _ _ h=>h) (FS Af _ _ rfl B0 0 rfl _ _ (λw H=>H.2.2) En rfl bt) C ?_;refine BM (i:=0) (v:=ptB t) rfl Aa Aa Aa (λ_ _ _ h=>h) (AX ⟨Af,λw H=>Af⟩) C ?_;refine BM (i:=1) (v:=ptB t) rfl Aa Aa Aa (λ_ _ _ h=>h) (AX ⟨Af,λw H=>Ah⟩) C ?_;refine BM (i:=2) (v:=ptB t) rfl Aa Aa Aa (λ_ _ _ h=>h) (AX ⟨Af,λw H=>Ah⟩) C ?_;refine BM (i:=3) (v:=.slice (some ⟨b,0,none⟩) n cp) rfl Aa Aa Aa (λ_ _ _ h=>h) (AX ⟨Af,λw H=>by have:=H.1;go_simp⟩) C ?_;refine BM (i:=4) (v:=.int .i64 (k:Int)) rfl Aa Aa Aa (λ_ _ _ h=>h) (AX ⟨Af,λw H=>Af⟩) C ?_;refine BM (i:=5) (v:=.pointer (some ⟨b,k*27,none⟩)) rfl Aa Aa Aa (λ_ _ _ h=>h) (AX ⟨Af,λw H=>Ah⟩) C ?_;refine BM (i:=6) (v:=.pointer (some ⟨b,k*27+26,none⟩)) rfl Aa Aa Aa (λ_ _ _ h=>h) (AX ⟨Af,λw H=>Ah⟩) C ?_;refine BM (i:=7) (v:=ptB lg) rfl Aa Aa Aa (λ_ _ _ h=>h) (AX ⟨Af,λw H=>by have:=H.2.1;go_simp⟩) C ?_;refine FB (rs:=[9]) Aa Ad ?_;refine Fr rfl (λK hK=> ?_) Fs;go_simp;go_at_call 156
   refine HA.out.mono ?_;rintro e w3 ⟨rfl,hM⟩;obtain⟨e1,e2,e3,hq⟩:=bb.out _ hM;have HQ:=AE hq;refine hK.out _ _ ⟨e1.trans a1,(e2 _).trans ax,λj v hv=>(e3 _).trans (a4 j v hv)⟩ (λY=> ?_);clear hK K hM e1 e2 e3 hq C;refine BM (i:=10) (v:=.int .i64 F) rfl Aa Aa Aa (λ_ _ _ h=>h) (AX ⟨Af,λw H=>Af⟩) Y ?_;refine CR Aa ?_ _;go_wp2;go_ret;exact HQ.out
end
section
open Classical
variable{w:World}{t b n c:Nat}
theorem RM.blk{L:List Rl}(h:RM w t (.slice (some ⟨b,0,none⟩) n c) L)(hn:0<L.length):∃cur T,w.heap[b]? =some (.cells cur T (0,0)):=by
 obtain⟨xs,⟨⟨_,h2⟩,_⟩,_⟩:=h.row;rcases h2 with⟨e,_⟩ | ⟨C,cap,cur,e,_,F,_⟩
 ·cases e
 ·obtain rfl:b=C:=by injection e with e;injection e with e;injection e
  exact⟨_,_,F⟩
theorem RM.thr{L:List Rl}{k:Nat}{l:Rl}(h:RM w t (.slice (some ⟨b,0,none⟩) n c) L)(H:L[k]? =some l)(u:Value):(w.setCell ⟨b,k*27+4,none⟩ u).there b (k*27+5) 21:=λj U=>by
 have J:=(A1.1 H).1;obtain⟨cur,T,G⟩:=h.blk no;obtain⟨P,c2,cs,e,F⟩:=h.at H;injection e with C;injection C with C;injection C with C;subst C;have h3:=C1 w b (k*27+4) cur T u G;have hl:=F.len;have I:=F.rg (5+j) _ (AM no);rw[aH G]at I;have K:=(A2.1 I).1;refine⟨?_,by simp[Dp,h3]⟩;rw[aH h3,Array.getElem?_eq_getElem (by simp;omega)];rfl
theorem abe{A B:List Rl}{l:Rl}{p:Pq}{cs:List Value}(h:RM w t (.slice (some ⟨b,0,none⟩) n c) (A++l::B))(hn:n=(A++l::B).length)(hv:aR w (.agg cs.toArray) p):
  RPost w t (.slice (some ⟨b,0,none⟩) n c) (A++l::B) ((w.setCell ⟨b,A.length*27+4,none⟩ (.bool true)).setCells b (A.length*27+5) cs) (.slice (some ⟨b,0,none⟩) n c) (A++ {l with x:= {l.x with st:=true,po:=p}}::B):=by
 obtain⟨J,G,hc⟩:=hv;have G:cs=J:=by injection G with G;simpa using G
 subst G;have C:cs.length=21:=aw hc;subst hn;refine RM.put (h:=h) (c:=c) rfl (us:=.bool true::cs) (o:=4) (by simp[C]) (λy hy m e=> ?_) rfl rfl rfl (λw' hk j q H I=> ?_) (λj H=> ?_)
 ·rcases AY.1 hy with hy | hy
  ·subst hy;cases e
  ·obtain⟨j,H,Z⟩:=BL hy;obtain⟨q,I⟩:∃q,(vQ [p.rot.w.raw,p.rot.x.raw,p.rot.y.raw,p.rot.z.raw,p.pos.x.raw,p.pos.y.raw,p.pos.z.raw])[j]? =some q:=⟨_,AM (by show j<21;omega)⟩;obtain⟨v,F,k2,_⟩:=iS hc I;rw[AM H,Z]at F;injection F with F;subst F;exact(q.fl _ _ k2).2.2 m e
 ·cases j with
  | zero=>
   have:q= .val (.bool true):=by
    have e:(some (Vp.val (.bool true)):Option Vp)=some q:=I;injection e with e;exact e.symm
   subst this;exact⟨_,rfl,⟨rfl,bJ⟩,λ_ h=>h⟩
  | succ i=>
   have hi:i<21:=by simp only[Bh,C]at H;omega
   have e:({l with x:= {l.x with st:=true,po:=p}}:Rl).qs=[.val (.string l.c),.val (.string l.x.par),.val (.int .i64 l.x.fr),.val (.int .i64 l.x.un),.val (.bool true)]++(frs p.cs++ [.val (ptB l.g)]):=rfl;rw[e,Bw (by simp;omega),BB (by show 4+(i+1) - 5<21;omega),show 4+(i+1) - [Vp.val (.string l.c),.val (.string l.x.par),.val (.int .i64 l.x.fr),.val (.int .i64 l.x.un),.val (.bool true)].length=i by simp;omega]at I;have U:(vQ [p.rot.w.raw,p.rot.x.raw,p.rot.y.raw,p.rot.z.raw,p.pos.x.raw,p.pos.y.raw,p.pos.z.raw])[i]? =some q:=I;obtain⟨v,F,k2,k3⟩:=iS hc U;obtain⟨k4,k5⟩:=q.ch _ _ _ v k2 hk (λg P=>absurd P (k3 g));exact⟨v,F,k4,λg P=>k3 g (k5 g P)⟩
 ·rcases H with K | K
  ·match j,K with
   | 0,_=>rfl
   | 1,_=>rfl
   | 2,_=>rfl
   | 3,_=>rfl
  ·obtain⟨i,rfl⟩:∃i,j=26+i:=⟨j - 26,by simp only[Bh,C]at K;omega⟩;have V:∀x:Pq,(frs x.cs++ [Vp.val (ptB l.g)])[21+i]? =[Vp.val (ptB l.g)][i]? :=λx=>by
    rw[Bw (by show 21<=21+i;omega)];show [Vp.val (ptB l.g)][21+i - 21]? =_;rw[Ez]
   have Y:∀(a b c d e:Vp)(M:List Vp),(a::b::c::d::e::M)[26+i]? =M[21+i]? :=λa b c d e M=>by
    rw[show 26+i=(21+i)+1+1+1+1+1 by omega];rfl
   show(lnQ _ _)[_]? =(lnQ _ _)[_]?;unfold lnQ;rw[Y,Y,V,V]
end
section
open Classical
set_option maxHeartbeats 400000 in
theorem q_FixedR{w:World}{t:Nat}{v:Value}{L:List Rl}{c:Nm}{cs:List Value}{p:Pq}{ok:Bool}(h:RM w t v L)(hn:L.length<=1000000)(hG:∀l∈L,l.x.tr.length<=64)(hv:aR w (.agg cs.toArray) p)
  (ax:∀w',AW w.heap.size w w'->AF AD 158 #[.agg cs.toArray] w' λe cv=>e= .returned (.bool ok)/\AW w'.heap.size w' cv):
  AF AD 94 #[ptB t,.string c,.agg cs.toArray] w λe w'=>∃v' L' au,e= .returned (.int .i64 au)/\RPost w t v L w' v' L'/\FixS ok p (trR L) c (trR L') au:=by
 obtain⟨H,cm⟩:∃H,w.alloc (.cells cs.toArray 39)=H:=⟨_,rfl⟩;have ap:AW w.heap.size w H:=by rw[<-cm];exact(AH _ _).alloc (AI _) _
 have aa:H.heap[w.heap.size]? =some (.cells cs.toArray 39 (0,0)):=by rw[<-cm];exact Bs w _
 have ca:=wm (h.below ap) c hn;have V:cs.length=21:=by
  obtain⟨a0,P,hc⟩:=hv;have P:cs=a0:=by injection P with P;simpa using P
  subst P;exact aw hc
 have b9:cs.toArray.all (·.oneCell')=true:=by
  obtain⟨a0,P,hc⟩:=hv;have P:cs=a0:=by injection P with P;simpa using P
  subst P;exact Dt (ce hc)
 generalize hB:w.heap.size=B0 at *;have b0:B0<H.heap.size:=(A2.1 aa).1;have a6:(AD.info? 39).map (·.size)=some cs.length:=by rw[V];kernel_rfl
 have HM:=AE h;have ak:=AE ap;have ar:=AE aa;have J:=AE b0;have HV:=AE hv;have bq:=AE ax;have HG:=AE hG;have cn:=AE V;obtain⟨ad,cp,cl⟩:=h.form;obtain⟨n,hN⟩:∃n,n=L.length:=⟨_,rfl⟩;have HN:=AE hN;rw[<-hN]at cl hn;subst cl;have c8:(n:Int)<=1000000:=no
 have a3:=h.below (show AW w.heap.size w H by rw[hB];exact ap);have bi:=AE a3;have c6:=a3.cell;clear h hN hn ap aa b0 ax hG V hv a3;go_enter Tryz.func94,Tryz.ntmps94
 go_upto_if 12 with(go_at_call 155;refine ca.mono ?_;rintro e w2 ⟨i,rfl,hi,hw⟩;obtain rfl:=hw.symm;have HP:=AE (ws hi);clear ca hi)
 rcases HP.out with⟨hi,hp⟩ | ⟨A,B,l,hi,hL,hc,hp⟩
 ·subst hi;have HQ:=AE (FixS.none (ok:=ok) (p:=p) hp);clear hp;go_wp2;go_ret;exact⟨_,L,18,rfl,.refl HM.out (by rw[hB];exact ak.out),HQ.out⟩
 ·subst hi;obtain⟨k,hk⟩:∃k,A.length=k:=⟨_,rfl⟩;rw[hk];have G:L[k]? =some l:=by rw[hL,<-hk,Bw (AI _),Dk];rfl
  have a2:=(A1.1 G).1;have c7:(k:Int)<(n:Int):=by rw[HN.out];omega
  have q0:decide ((k:Int)<0)=false:=decide_eq_false no;obtain⟨b,c2,cz,e,AT⟩:=bi.out.at G;injection e with e1 e2 e3;subst e1;subst e3;clear e2;have fst:=AT.st;have c5:=AT.tp;have am:=AE hL;have HK:=AE hk;have bp:=AE hp;have HC:=AE hc;have ay:=AE G
  cases hx:l.x.st with
  | true=>
   rw[hx]at fst;have HQ:=AE (FixS.state (ok:=ok) (p:=p) hp (.inl hx));clear AT G a2 hL hk hp hc hx;go_wp2;go_ret;exact⟨_,L,10,rfl,.refl HM.out (by rw[hB];exact ak.out),HQ.out⟩
  | false=>
   rw[hx]at fst;have HX:=AE hx;have Y:=k_rLen (bi.out.trk l (A5 G))
   change AF AD 157 #[ptB l.g] H _ at Y
   by_cases ht:l.x.tr=[]
   ·have b8:AF AD 157 #[ptB l.g] H λe w'=>e= .returned (.int .i64 0)/\AW H.heap.size H w':=by rw[ht]at Y;exact Y
    have HT:=AE ht;clear AT G a2 hL hk hp hc hx Y ht;go_upto_if 32 with(go_at_call 157;refine b8.mono ?_;rintro e w2 ⟨rfl,k2⟩;have K2:=AE k2;clear k2)
    have b1:AW w.heap.size w w2:=by rw[hB];exact ak.out.trans (K2.out.mono (by have:=J.out;omega))
    have av:w2.rangeAt B0 0 cs:=λj v hv=>by rw[K2.out.cell (p:=⟨B0,_,none⟩) J.out,aH ar.out,A7];simpa using hv
    have I:=AE b1;clear b1;have be:=AE av;clear av;go_upto_region 6 with(fail)
    refine Bn ?_;refine Du rfl _ _ rfl B0 0 rfl cs _ be.out CD rfl a6 ?_;have ac:=bq.out w2 (by rw[<-hB];exact I.out);go_upto_if 35 with(go_at_call 158;refine ac.mono ?_;rintro e w3 ⟨rfl,k3⟩;have K3:=AE k3;clear k3 ac)
    cases ok with
    | false=>
     have HQ:=AE (FixS.range (ok:=false) (p:=p) bp.out HX.out HT.out rfl);go_wp2;go_ret;exact⟨_,L,4,rfl,.refl HM.out (I.out.trans (K3.out.mono I.out.size)),HQ.out⟩
    | true=>
     have a1:AW w.heap.size w w3:=I.out.trans (K3.out.mono I.out.size);have bb:=AE a1;have Z:=HM.out.below a1;have b2:=Z.cell;obtain⟨b',c3,c4,e',a9⟩:=Z.at ay.out;injection e' with e1 e2 e3;injection e1 with e1;injection e1 with e1;subst e1;clear e2 e3;have bt:=a9.st;rw[HX.out]at bt;have hz:w3.frozen? ⟨b,k*27+4,none⟩=false:=Z.thaw (by have:=(A1.1 ay.out).1;omega);have an:=AE Z;clear a1 Z a9;go_upto_region 9 with(fail)
     have a5:=b9;have cb:(AD.info? 39).map (·.size)=some cs.toArray.size:=by rw[a6,BW]
     have cq:=AE (show RPost w t (.slice (some ⟨b,0,none⟩) n cp) L ((w3.drew.setCell ⟨b,k*27+4,none⟩ (.bool true)).setCells b (k*27+5) cs) (.slice (some ⟨b,0,none⟩) n cp) (A++ {l with x:= {l.x with st:=true,po:=p}}::B)by
      have hd:RM w3.drew t (.slice (some ⟨b,0,none⟩) n cp) (A++l::B):=by rw[<-am.out];exact an.out.below (AH _ _).drew
      have:=abe hd (by rw[HN.out,am.out]) (HV.out.mono bb.out.drew);rw[HK.out]at this;exact RPost.pre bb.out.drew (by rw[am.out];exact this))
     have HF:=AE (show FixS true p (trR L) c (trR (A++ {l with x:= {l.x with st:=true,po:=p}}::B)) 0 by
      rw[am.out,kH,kH,HC.out];exact .ok rfl bp.out.2 HX.out HT.out rfl)
     have a4:=an.out.nd;have cu:=an.out.lt;have cc:t≠b:=λe=>by
      unfold fpR at a4;exact(Bz.1 a4).1 (by rw[e];simp[Cy])
     have bO:B0≠b:=λe=>by
      have:=HM.out.lt b (by simp[fpR,Cy]);omega
     obtain⟨F,aq⟩:∃F,w3.setCell ⟨b,k*27+4,none⟩ (.bool true)=F:=⟨_,rfl⟩;have a7:Upd w3 b F:=by rw[<-aq];exact Upd.cell _ _ _ _
     have U:F.drew.cell? ⟨t,0,none⟩=some (.slice (some ⟨b,0,none⟩) n cp):=(Cb (w:=w3) (w':=F) (a7.block t cc)).trans b2;have bz:w3.heap[B0]? =H.heap[B0]? :=by
      rw[(K3.out.block B0 (Bv J.out K2.out.size)),K2.out.block B0 J.out]
     have ab:F.drew.rangeAt B0 0 cs:=λj v hv=>by
      have e1:F.drew.heap[B0]? =H.heap[B0]? :=(a7.block B0 bO).trans bz;rw[Cb (w:=H) (w':=F.drew) e1,aH ar.out,A7];simpa using hv
     have cd:F.drew.there b (k*27+5) cs.toArray.size:=by
      rw[BW,cn.out,<-aq];exact an.out.thr ay.out _
     have HS:=AE (show∀w5,w5=F.drew.setCells b (k*27+5) cs->w5.cell? ⟨t,0,none⟩=some (.slice (some ⟨b,0,none⟩) n cp)/\w5.rangeAt B0 0 cs from λw5 e=>by
      have u:=cA cs F.drew b (k*27+5);rw[<-e]at u;exact⟨(Cb (w:=F.drew) (w':=w5) (u.block t cc)).trans U,λj v hv=>(Cb (w:=F.drew) (w':=w5) (u.block B0 bO)).trans (ab j v hv)⟩)
     have cr:=AE (show RPost w t (.slice (some ⟨b,0,none⟩) n cp) L (F.drew.setCells b (k*27+5) cs) (.slice (some ⟨b,0,none⟩) n cp) (A++ {l with x:= {l.x with st:=true,po:=p}}::B)by rw[<-aq];exact cq.out);clear a4 cu a7 bz;rw[aq];refine Df (S:=λw'=>w'.cell? ⟨t,0,none⟩=some (.slice (some ⟨b,0,none⟩) n cp)/\w'.rangeAt B0 0 cs) Aa ⟨U,ab⟩ (λC=> ?_);refine BM (i:=5) (v:=.agg cs.toArray) rfl Aa Aa Aa (λ_ _ _ h=>h) (FS Af _ _ rfl B0 0 rfl _ _ (λw hw=>hw.2) CD rfl a6) C ?_;refine BM (i:=0) (v:=ptB t) rfl Aa Aa Aa (λ_ _ _ h=>h) (AX ⟨Af,λw hw=>Af⟩) C ?_;refine BM (i:=1) (v:=ptB t) rfl Aa Aa Aa (λ_ _ _ h=>h) (AX ⟨Af,λw hw=>Ah⟩) C ?_;refine BM (i:=2) (v:=ptB t) rfl Aa Aa Aa (λ_ _ _ h=>h) (AX ⟨Af,λw hw=>Ah⟩) C ?_;refine BM (i:=3) (v:=.slice (some ⟨b,0,none⟩) n cp) rfl Aa Aa Aa (λ_ _ _ h=>h) (AX ⟨Af,λw hw=>by have:=hw.1;go_simp⟩) C ?_;refine BM (i:=4) (v:=.int .i64 (k:Int)) rfl Aa Aa Aa (λ_ _ _ h=>h) (AX ⟨Af,λw hw=>Af⟩) C ?_;refine BM (i:=6) (v:=.pointer (some ⟨b,k*27,none⟩)) rfl Aa Aa Aa (λ_ _ _ h=>h) (AX ⟨Af,λw hw=>Ah⟩) C ?_;refine BM (i:=7) (v:=.pointer (some ⟨b,k*27+5,none⟩)) rfl Aa Aa Aa (λ_ _ _ h=>h) (AX ⟨Af,λw hw=>Ah⟩) C ?_;refine FB (rs:=[8]) Aa Ad ?_;refine Fr rfl (λK hK=> ?_) Fs;rw[if_pos Af];have key:∀(op:Oper)(a:Act)(Q:Exit->Act->World->Prop),op.op= .store 39 (.tmp 50) (.tmp 48)->a.eval (.tmp 50)= .pointer (some ⟨b,k*27+5,none⟩)->a.eval (.tmp 48)= .agg cs.toArray->K (a.put op.dst undef) (F.drew.setCells b (k*27+5) cs)->op.wp AD a F.drew K Q:=λop a Q ho hx hy h=>wp_store_mid 39 (.tmp 50) (.tmp 48) ho b (k*27+5) cs.toArray hx hy cd cb a5 h
     refine key _ _ _ ?_ ?_ ?_ ?_
     ·rfl
     ·go_simp
     ·go_simp
     refine hK.out _ _ (HS.out _ rfl) (λao=> ?_);refine CR Aa ?_ _;clear key hK K C ao cd U ab;go_wp2;go_ret;exact⟨_,_,0,rfl,cr.out,HF.out⟩
   ·have cx:(0:Int)<(l.x.tr.length:Int):=by have:=List.length_pos_iff.2 ht;omega
    have HQ:=AE (FixS.state (ok:=ok) (p:=p) hp (.inr ht));clear AT G a2 hL hk hp hc hx ht;generalize (l.x.tr.length:Int)=m at *;go_wp2_with (go_at_call 157;refine Y.mono ?_;rintro e w2 ⟨rfl,k2⟩;have K2:=AE k2;clear k2)
    go_ret;exact⟨_,L,10,rfl,.refl HM.out (by rw[hB];exact ak.out.trans (K2.out.mono (by have:=J.out;omega))),HQ.out⟩
end
section
open Classical
theorem RM.push{w J P:World}{t:Nat}{v v':Value}{L:List Rl}{l:Rl}{xs news:List Value}(h:RM w t v L)(hb:AW w.heap.size w J)(hx:a8 J rlT 27 v L.length xs)(ax:aO J (rlQ L) xs)
  (hT:TrkS rkT J l.g l.sl l.x.tr)(U:w.heap.size<=l.g)(hs:∀b,l.sl.ownBlock=some b->w.heap.size<=b)(og:∀g∈l.g::l.sl.ownBlock.toList,bv J g)(aq:aO J l.qs news)
  (k2:J.grownBy P v.ownBlock)(k3:∀g,v'.ownBlock=some g->v.ownBlock=some g\/J.heap.size<=g)(k4:a8 P rlT 27 v' (L.length+1) (xs++news)):
  RPost w t v L (P.setCell ⟨t,0,none⟩ v') v' (L++ [l]):=by
 have h1:=h.below hb;have ak:=h.nd;unfold fpR at ak;obtain⟨nt,ay⟩:=Bz.1 ak;have G:=h.lt;have I:t∈fpR t v L:=by simp[fpR]
 have K:∀g,v.ownBlock=some g->g∈fpR t v L:=λg e=>by simp[fpR,e]
 have am:∀H∈L,∀g∈H.g::H.sl.ownBlock.toList,g∈fpR t v L:=λH F g U=>Bi _ (AJ.2 (.inr (Br.2 ⟨H,F,U⟩)))
 have Y:=hb.size;have tv:∀g,v.ownBlock=some g->g≠t:=λg e e2=>nt (by rw[<-e2];simp[e])
 have u:=Upd.cell P t 0 v';have Z:∀g,g<J.heap.size->g≠t->v.ownBlock≠some g->(P.setCell ⟨t,0,none⟩ v').heap[g]? =J.heap[g]? :=λg U ht hv=>(u.block g ht).trans (k2.block g U (λe=>hv e.symm))
 have V:J.heap.size<=(P.setCell ⟨t,0,none⟩ v').heap.size:=by rw[u.size];exact k2.size
 have hc:Chg J (P.setCell ⟨t,0,none⟩ v') (λg=>g=t\/v.ownBlock=some g):=⟨V,λg U hn=>Z g U (λe=>hn (.inl e)) (λe=>hn (.inr e)),λg U=>by
  rcases U with e | e
  ·rw[e];exact h1.own t I
  ·exact h1.own g (K g e)⟩
 have ar:P.heap[t]? =some (.cells #[v] rrT (0,0)):=by rw[k2.block t (Bv (G t I) Y) (λe=>tv t e.symm rfl)];exact h1.tr
 have an:(P.setCell ⟨t,0,none⟩ v').heap[t]? =some (.cells #[v'] rrT (0,0)):=C1 P t 0 #[v] rrT v' ar;have ao:∀g,v'.ownBlock=some g->g≠t:=λg e=>by
  rcases k3 g e with k | k
  ·exact tv g k
  ·have:=G t I;omega
 have hZ:∀g∈l.g::l.sl.ownBlock.toList,w.heap.size<=g/\g<J.heap.size:=λg C=>⟨by
  rcases AY.1 C with e | e
  ·rw[e];exact U
  ·exact hs g Ay,(og g C).1⟩
 have ab:∀H∈L,∀g∈H.g::H.sl.ownBlock.toList,¬(g=t\/v.ownBlock=some g):=λH F g C e=>by
  have hm:g∈L.flatMap λl=>l.g::l.sl.ownBlock.toList:=Br.2 ⟨H,F,C⟩
  rcases e with e | e
  ·exact nt (by rw[<-e];exact AJ.2 (.inr hm))
  ·exact cB ay (x:=g) (by simp[e]) hm
 have ac:∀g∈l.g::l.sl.ownBlock.toList,¬(g=t\/v.ownBlock=some g):=λg C e=>by
  have:=(hZ g C).1;rcases e with e | e
  ·have:=G t I;omega
  ·have:=G g (K g e);omega
 have aa:fpR t v' (L++ [l])=(t::(v'.ownBlock.toList++L.flatMap λl=>l.g::l.sl.ownBlock.toList))++(l.g::l.sl.ownBlock.toList):=by simp[fpR]
 obtain⟨ad,cc,au⟩:=cV k4.1;refine⟨⟨an,⟨xs++news,?_,?_⟩,λH F=> ?_,?_,λg C=> ?_⟩,⟨(u.os.trans k2.os).trans hb.os,(u.tape.trans k2.tape).trans hb.tape,(u.output.trans k2.output).trans hb.output,AG Y V,λk hk hn=>(Z k (Bv hk Y) (λe=>hn (e▸I)) (λe=>hn (K k e))).trans (hb.block k hk)⟩,λg C=> ?_⟩
 ·rw[Bj];exact k4.keep (λg e=>u.block g (ao g e))
 ·rw[acF,show rlQ [l]=l.qs from CO _];exact(ax.chg hc).append (aq.chg hc)
 ·rcases AJ.1 F with k | k
  ·exact(h1.trk H k).chg hc (ab H k _ Ad) (λb e=>ab H k b (by simp[e]))
  ·obtain rfl:H=l:=by simpa using k
   exact hT.chg hc (ac _ Ad) (λb e=>ac b (by simp[e]))
 ·rw[aa];have n1:(([t]:List Nat)++(v'.ownBlock.toList++L.flatMap λl=>l.g::l.sl.ownBlock.toList)).Nodup:=sH (X:=[t]) (o:=v.ownBlock) ak (λb e=>(k3 b e).imp id (λk hm=>by
   have:b∈fpR t v L:=by
    rcases AJ.1 hm with e | e
    ·obtain rfl:b=t:=by simpa using e
     exact I
    ·exact Bi _ (AJ.2 (.inr e))
   have:=G b this;omega))
  refine BN.2 ⟨n1,?_,λa ha b ap e=> ?_⟩
  ·refine Bz.2 ⟨λhm=>hT.ne l.g (by simpa using hm) rfl,?_⟩;cases l.sl.ownBlock<;>simp
  ·subst e;obtain⟨z1,z2⟩:=hZ a ap;rcases AY.1 ha with e | e
   ·have:=G t I;omega
   ·rcases AJ.1 e with e | e
    ·rcases k3 a Ay with k | k
     ·have:=G a (K a k);omega
     ·omega
    ·have:=G a (Bi _ (AJ.2 (.inr e)));omega
 ·rw[aa]at C;rcases AJ.1 C with e | e
  ·rcases AY.1 e with e | e
   ·rw[e];refine .mk' an (λk n hk=> ?_)
    cases k with
    | zero=>simp at hk;rw[au]at hk;cases hk
    | succ k=>simp at hk
   ·rcases AJ.1 e with e | e
    ·have e:v'.ownBlock=some g:=by simpa using e
     exact(k4.2 g e).x.blk (u.block g (ao g e)) (by rw[u.size];exact AI _)
    ·obtain⟨H,F,e⟩:=Br.1 e;have av:=ab H F g e;exact(h1.own g (am H F g e)).blk (hc.blk g (Bv (G g (am H F g e)) Y) av) V
  ·exact(og g e).blk (hc.blk g (og g e).1 (ac g e)) V
 ·rw[aa]at C;rcases AJ.1 C with e | e
  ·rcases AY.1 e with e | e
   ·exact .inl (by rw[e];exact I)
   ·rcases AJ.1 e with e | e
    ·rcases k3 g Ay with k | k
     ·exact .inl (K g k)
     ·exact .inr no
    ·exact .inl (Bi _ (AJ.2 (.inr e)))
  ·exact .inr (hZ g e).1
end
variable{w:World}{c:Nm}{l:Ln}
theorem LnAt.pose(h:LnAt w c l):∃cs:List Value,cs.length=21/\w.rangeAt l.b 5 cs/\aR w (.agg cs.toArray) l.x.po:=by
 obtain⟨⟨C,h1,h2,h3⟩,_⟩:=h;have G:C.size=27:=h2;have I:∀j,j<21->(C.extract 5 26).toList[j]? =C[5+j]? :=λj F=>by
  rw[Array.getElem?_toList,Array.getElem?_extract];rw[if_pos no]
 refine⟨(C.extract 5 26).toList,by simp[G],λj v K=> ?_,⟨_,rfl,mC (xs:=l.x.po.cs) (by show(C.extract 5 26).toList.length=21;simp[G]) (λj q J=> ?_)⟩⟩
 ·have F:j<21:=by have:=(A1.1 K).1;simpa [G]using this
  rw[aH h1,<-I j F];exact K
 ·have F:j<21:=(A1.1 J).1;have H:(lnQ c l)[5+j]? =some q:=by
   show([.val (.string c),.val (.string l.x.par),.val (.int .i64 l.x.fr),.val (.int .i64 l.x.un),.val (.bool l.x.st)]++(frs l.x.po.cs++ [.val (ptB l.g)]):List Vp)[5+j]? =some q;rw[Bw Ad,BB (by show 5+j - 5<21;omega)];rw[show 5+j - ([.val (.string c),.val (.string l.x.par),.val (.int .i64 l.x.fr),.val (.int .i64 l.x.un),.val (.bool l.x.st)]:List Vp).length=j from by show 5+j - 5=j;omega];exact J
  obtain⟨u,P,k2⟩:=h3 _ _ H;exact⟨u,by rw[I j F];exact P,k2⟩
noncomputable def trkP(S:List St)(a:Int):Pq×Int:=
 match S[0]?,S[S.length - 1]? with
 | some f,some l=>if a<f.tm\/l.tm<a then(Pq.zero,17)else
  (match S[plN S a]? with
  | some y=>if y.tm=a then(y.pose,0)else(match S[plN S a - 1]? with | some z=>(atP z y 0 a,0) | none=>(Pq.zero,17))
  | none=>(Pq.zero,17))
 | _,_=>(Pq.zero,6)
variable{a:Int}{z y:St}
theorem Road.trkP{S:List St}{c:Int}(h:Road S a z y c):trkP S a=(atP z y c a,c):=by
 unfold Go.Proofs.YtggfmklppkioeaaGreat.trkP
 cases h with
 | E h0=>
  have:S=[]:=List.eq_nil_of_length_eq_zero h0;subst this;rfl
 | O1 f hf hn ha=>
  obtain⟨l,hl⟩:∃l,S[S.length - 1]? =some l:=⟨_,AM no⟩;simp only[hf,hl];rw[if_pos (.inl ha)];unfold atP;rw[if_pos it]
 | O2 f hf hb l hl hn ha=>simp only[hf,hl];rw[if_pos (.inr ha)];unfold atP;rw[if_pos it]
 | Q f hf hb l hl hn ha y hy ey hp eq1=>
  simp only[hf,hl];rw[if_neg no];simp only[hy];rw[if_pos ey];unfold atP;rw[if_neg it,if_pos rfl]
 | M f hf hb l hl hn ha y hy ey hp h0 eq1 z hz=>
  simp only[hf,hl];rw[if_neg no];simp only[hy];rw[if_neg no];simp only[hz]
noncomputable def bC(R:Tr)(c:Nm)(a:Int):Pq×Int:=match tAt R c a with | none=>(Pq.zero,18) | some x=>if x.st then(x.po,0)else trkP x.tr a
structure PB(w0 W:World)(B:Nat)(vs:List Value):Prop where
 blk:W.heap[B]? =some (.cells vs.toArray 39 (0,0))
 len:vs.length=21
 bel:mBw w0 W
 ge:w0.heap.size<=B
 nu:∀u∈vs,noU u
theorem PB.new(w:World):PB w (w.alloc (.cells ai.toArray 39)) w.heap.size ai:=⟨Bs w _,rfl,(AH _ w).alloc (AI _) _,AI _,λu C n e=>by
 subst e;simp[ai]at C⟩
variable{w0 W:World}{B:Nat}{vs:List Value}
theorem PB.next{W':World}(h:PB w0 W B vs)(k:AW W.heap.size W W'):PB w0 W' B vs:=
 ⟨by rw[k.block B (A2.1 h.blk).1];exact h.blk,h.len,h.bel.trans (k.mono h.bel.size),h.ge,h.nu⟩
variable{us:List Value}
theorem PB.put(h:PB w0 W B vs)(C:us.length=21)(hn:∀u∈us,noU u):PB w0 (W.setCells B 0 us) B us:=
 ⟨by rw[fA us W B 0 _ _ h.blk,lF (by simp[h.len,C])],C,aQ us 0 W h.bel h.ge,h.ge,hn⟩
theorem PB.there(h:PB w0 W B vs):W.there B 0 21:=by
 have:=oc h.blk;rwa [BW,h.len]at this
theorem bc(C:us.length=21):(AD.info? 39).map (·.size)=some us.toArray.size:=by rw[BW,C];kernel_rfl
variable{v:Value}
theorem dJ{p:Pq}(h:aR w v p):∃cs:List Value,v= .agg cs.toArray/\cs.length=21/\cs.toArray.all (·.oneCell')=true/\∀u∈cs,noU u:=by
 obtain⟨cs,rfl,hc⟩:=h;refine⟨cs,rfl,aw hc,Dt (ce hc),λu G n e=> ?_⟩;obtain⟨k,F,C⟩:=BL G;exact hc.noInt k n (by rw[AM F,C,e])
theorem PB.keep{p:Pq}(h:PB w0 W B vs)(i:aR W v p):aR (W.setCells B 0 us) v p:=by
 obtain⟨cs,rfl,hc⟩:=i;exact⟨cs,rfl,hc.upd (jS h.blk (λu C=>h.nu u At)) (cA us W B 0)⟩
theorem PB.ret(h:PB w0 W B vs){fn:Func}{p u:Tmp}(hr:fn.results=#[.cell p 39,.tmp u])(tmps:Array Value)(hp:tmps.getD p undef= .pointer (some ⟨B,0,none⟩)):
  (results fn tmps).run AD W= .ok (.tuple #[.agg vs.toArray,tmps.getD u undef]) W:=
 oh hr tmps W B _ _ _ _ hp h.blk CD rfl (bc h.len)
variable{t m:Nat}{E:List Ch}
theorem q_EdgeN(h:TM w t m E)(hl:atE E c a=none):
  AF AD 41 #[ptB t,.string c,.int .i64 a] w λe w'=>e= .returned (.tuple #[.agg ai.toArray,.int .i64 18])/\AW w.heap.size w w':=by
 have F:=PB.new w;have C:=ut (h.below F.bel) c a;rw[hl]at C
 change AF _ _ _ _ (λe w'=>e= .returned (.pointer none)/\w'=_)at C
 have G:=AE F;obtain⟨W,I⟩:∃W,w.alloc (.cells ai.toArray 39)=W:=⟨_,rfl⟩;rw[I]at C G;clear h hl F;go_enter EY,Tryz.ntmps41
 go_upto_region 0 with(fail)
 refine Bn ?_;refine ae rfl (v:=.pointer (some ⟨w.heap.size,0,none⟩)) (w':=W) (by subst I;go_simp;try rfl) ?_;obtain⟨B,K⟩:∃B,w.heap.size=B:=⟨_,rfl⟩;rw[K]at G⊢;clear I K;go_upto_region 5 with(go_at_call 90;refine C.mono ?_;rintro e w' ⟨rfl,J⟩;obtain rfl:=J.symm)
 refine Bn ?_;refine ae rfl (v:=.agg ai.toArray) (w':=W) (by unfold ai;go_simp;try rfl) ?_;refine Ca rfl _ _ _ rfl B 0 ai.toArray rfl rfl G.out.there Aa Aa ?_;have H:=AE (G.out.put (us:=ai) rfl G.out.nu);generalize W.setCells B 0 ai.toArray.toList=W2 at *;go_wp2;refine Ba (H.out.ret rfl _ rfl) rfl ?_;exact⟨rfl,H.out.bel⟩
theorem q_EdgeS(h:TM w t m E)(hl:atE E c a=some l)(hs:l.x.st=true)(hk:l.x.po.ok 1000000):
  AF AD 41 #[ptB t,.string c,.int .i64 a] w λe w'=>∃v,e= .returned (.tuple #[v,.int .i64 0])/\aR w' v l.x.po/\AW w.heap.size w w':=by
 have H:=PB.new w;have hT:=h.below H.bel;have C:=ut hT c a;rw[hl]at C
 change AF _ _ _ _ (λe w'=>e= .returned (ptB l.b)/\w'=_)at C
 obtain⟨_,_,_,hL⟩:=lD hT hl;obtain⟨cs,ab,I,ac⟩:=hL.pose;have J:=hL.st;rw[hs]at J;have G:=q_fcp _ l.x.po _ ac (hk.mono it);have HP:=AE H;obtain⟨W,hW⟩:∃W,w.alloc (.cells ai.toArray 39)=W:=⟨_,rfl⟩;rw[hW]at C HP I J G;have Z:=AE I;have aa:=AE (show(AD.info? 39).map (·.size)=some cs.length by rw[ab];kernel_rfl);clear h hl H hT hs hk hL I ac;generalize l.b=lb at *;generalize l.x.po=po at *;go_enter EY,Tryz.ntmps41
 go_upto_region 0 with(fail)
 refine Bn ?_;refine ae rfl (v:=.pointer (some ⟨w.heap.size,0,none⟩)) (w':=W) (by subst hW;go_simp;try rfl) ?_;obtain⟨B,hB⟩:∃B,w.heap.size=B:=⟨_,rfl⟩;rw[hB]at HP⊢;clear hW hB;go_upto_region 7 with(go_at_call 90;refine C.mono ?_;rintro e w' ⟨rfl,an⟩;obtain rfl:=an.symm)
 clear C J;refine Bn ?_;refine ae rfl (v:=ptB lb) (w':=W) Af ?_;refine ae rfl (v:=ptB lb) (w':=W) Ah ?_;refine ae rfl (v:=.pointer (some ⟨lb,5,none⟩)) (w':=W) Ah ?_;refine Du rfl _ _ rfl lb 5 rfl cs _ Z.out CD rfl aa.out ?_;refine BC rfl (λK hK=> ?_);go_simp;go_at_call 97
 refine G.mono ?_;rintro e w4 ⟨v,rfl,V,k4⟩;obtain⟨us,rfl,U,ad,ak⟩:=dJ V;have F:=HP.out.next k4;have Y:=AE (F.put (us:=us) U ak);have HV:=AE (F.keep (us:=us) V);have P:=F.there;rw[<-U]at P;refine hK _ _ ?_;clear hK K V k4 G Z aa HP;refine Ca rfl _ _ _ rfl B 0 us.toArray rfl rfl (by simpa using P) (bc U) ad ?_;rw[show us.toArray.toList=us from rfl];generalize am:w4.setCells B 0 us=W2 at *;clear am F P ad ak;go_wp2;refine Ba (Y.out.ret rfl _ rfl) rfl ?_;exact⟨_,rfl,HV.out,Y.out.bel⟩
theorem q_EdgeT(h:TM w t m E)(hE:TOk (trE E))(hl:atE E c a=some l)(hs:l.x.st=false):
  AF AD 41 #[ptB t,.string c,.int .i64 a] w λe w'=>∃v,e= .returned (.tuple #[v,.int .i64 (trkP l.x.tr a).2])/\aR w' v (trkP l.x.tr a).1/\AW w.heap.size w w':=by
 have J:=PB.new w;have hT:=h.below J.bel;have C:=ut hT c a;rw[hl]at C
 change AF _ _ _ _ (λe w'=>e= .returned (ptB l.b)/\w'=_)at C
 obtain⟨ch,aa,ab,hL⟩:=lD hT hl;have I:=hE.good _ (cG.2 ⟨ch,(cF aa).1,l,ab,rfl⟩);obtain⟨z,y,cc,hr⟩:=road I a;have H:=k_At hL.trk I hr;have e1:=hr.trkP;have P:=hL.st;have am:=hL.tp;rw[hs]at P;have Y:=AE (show(trkP l.x.tr a).1=atP z y cc a by rw[e1]);rw[show(trkP l.x.tr a).2=cc by rw[e1]];have HP:=AE J;obtain⟨W,hW⟩:∃W,w.alloc (.cells ai.toArray 39)=W:=⟨_,rfl⟩;rw[hW]at C HP P H am;clear h hl J hT hs hL hE aa ab I hr e1;generalize l.b=lb at *;generalize l.g=lg at *;generalize (trkP l.x.tr a).1=po at *;go_enter EY,Tryz.ntmps41
 go_upto_region 0 with(fail)
 refine Bn ?_;refine ae rfl (v:=.pointer (some ⟨w.heap.size,0,none⟩)) (w':=W) (by subst hW;go_simp;try rfl) ?_;obtain⟨B,hB⟩:∃B,w.heap.size=B:=⟨_,rfl⟩;rw[hB]at HP⊢;clear hW hB;go_upto_region 8 with(go_at_call 90;refine C.mono ?_;rintro e w' ⟨rfl,an⟩;obtain rfl:=an.symm)
 clear C P;refine Bn ?_;refine ae rfl (v:=ptB lb) (w':=W) Af ?_;refine ae rfl (v:=ptB lb) (w':=W) Ah ?_;refine ae rfl (v:=.pointer (some ⟨lb,26,none⟩)) (w':=W) Ah ?_;refine ae rfl (v:=ptB lg) (w':=W) Ah ?_;refine ae rfl (v:=.int .i64 a) (w':=W) Af ?_;refine BC rfl (λK hK=> ?_);go_simp;go_at_call 98
 refine H.mono ?_;rintro e w4 ⟨v,rfl,G,k4⟩;rw[<-Y.out]at G;obtain⟨us,rfl,V,ac,ad⟩:=dJ G;have F:=HP.out.next k4;have Z:=AE (F.put (us:=us) V ad);have HV:=AE (F.keep (us:=us) G);have U:=F.there;rw[<-V]at U;refine hK _ _ ?_;clear hK K G k4 H HP Y;refine ae rfl (v:=.agg us.toArray) (w':=w4) Ah ?_;refine ae rfl (v:=.int .i64 cc) (w':=w4) Ah ?_;refine Ca rfl _ _ _ rfl B 0 us.toArray rfl rfl (by simpa using U) (bc V) ac ?_;rw[show us.toArray.toList=us from rfl];generalize ak:w4.setCells B 0 us=W2 at *;clear ak F U ac ad;go_wp2;refine Ba (Z.out.ret rfl _ rfl) rfl ?_;exact⟨_,rfl,HV.out,Z.out.bel⟩
theorem abf(h:TM w t m E)(G:TOk (trE E))(c:Nm)(a:Int):
  AF AD 41 #[ptB t,.string c,.int .i64 a] w λe w'=>∃v,e= .returned (.tuple #[v,.int .i64 (bC (trE E) c a).2])/\aR w' v (bC (trE E) c a).1/\mBw w w':=by
 unfold bC;rw[<-h.tAt]
 cases hl:atE E c a with
 | none=>
  refine(q_EdgeN h hl).mono ?_;rintro e w' ⟨rfl,hb⟩;exact⟨_,rfl,dC w',hb⟩
 | some l=>
  simp only[BG];obtain⟨ch,C,F,_⟩:=lD h hl
  cases hs:l.x.st with
  | true=>
   rw[if_pos rfl];exact q_EdgeS h hl hs ((G.pose _ (cG.2 ⟨ch,(cF C).1,l,F,rfl⟩) hs).2.mono it)
  | false=>
   rw[if_neg Ad];exact q_EdgeT h G hl hs
def endL(x:Lk):Int:=if x.un= -1 then dX else x.un - 1
noncomputable def acG(x:Lk):Int×Int×Bool:=
 if x.st then(x.fr,endL x,true)else
  (if (jt x.tr).2.2=true/\(jt x.tr).1<=min (jt x.tr).2.1 (endL x)then((jt x.tr).1,min (jt x.tr).2.1 (endL x),true)else(0,0,false))
noncomputable def gX(R:Tr)(c:Nm)(a:Int):Int×Int×Bool:=match tAt R c a with | none=>(0,0,false) | some x=>acG x
abbrev acH(s:Int×Int×Bool):Value:=.tuple #[.int .i64 s.1,.int .i64 s.2.1,.bool s.2.2]
theorem q_SpanN(h:TM w t m E)(hl:atE E c a=none):
  AF AD 43 #[ptB t,.string c,.int .i64 a] w λe w'=>e= .returned (.tuple #[.int .i64 0,.int .i64 0,.bool false])/\mBw w w':=by
 have C:=ut h c a;rw[hl]at C
 change AF _ _ _ _ (λe w'=>e= .returned (.pointer none)/\w'=_)at C
 clear h hl;go_enter Tryz.func43,Tryz.ntmps43
 go_wp2_with (go_at_call 90;refine C.mono ?_;rintro e w' ⟨rfl,F⟩;obtain rfl:=F.symm)
 go_ret3
 exact⟨rfl,AH _ _⟩
theorem q_SpanI(h:TM w t m E)(hE:TOk (trE E))(hl:atE E c a=some l):
  AF AD 43 #[ptB t,.string c,.int .i64 a] w λe w'=>e= .returned (acH (acG l.x))/\AW w.heap.size w w':=by
 have F:=ut h c a;rw[hl]at F
 change AF _ _ _ _ (λe w'=>e= .returned (ptB l.b)/\w'=_)at F
 obtain⟨ch,Z,aa,hL⟩:=lD h hl;have am:=hE.good _ (cG.2 ⟨ch,(cF Z).1,l,aa,rfl⟩);have ad:=hE.tm _ (cG.2 ⟨ch,(cF Z).1,l,aa,rfl⟩);have C:=k_Span hL.trk (AG am.len it);have av:=hL.un;have ao:=hL.fr;have ac:=hL.st;have ap:=hL.tp;have aq: -1<=l.x.un/\l.x.un<=1099511627776:=by have:=ad.1;have:=ad.2.2;unfold dX at this;simp only at *;omega
 obtain⟨e,he⟩:∃e,e=endL l.x:=⟨_,rfl⟩;obtain⟨s,hs⟩:∃s,s=jt l.x.tr:=⟨_,rfl⟩;rw[<-hs]at C;have H:=AE (show acG l.x=if l.x.st then(l.x.fr,e,true)else(if s.2.2=true/\s.1<=min s.2.1 e then(s.1,min s.2.1 e,true)else(0,0,false))by rw[he,hs];rfl);unfold endL at he;obtain⟨I,P,U⟩:=s;simp only at C H;generalize acG l.x=S at *;clear h hl hL hE Z aa am ad hs;generalize l.b=lb at *;generalize l.g=lg at *;generalize l.x.fr=fr at *;generalize l.x.un=un at *;generalize l.x.st=st at *;have key:∀(an:Bool)(I P:Int)(U:Bool),AF AD 100 (.pointer (some ⟨lg,0,none⟩)::[]).toArray w (λe w'=>e= .returned (.tuple #[.int .i64 I,.int .i64 P,.bool U])/\AW w.heap.size w w')->w.cell? ⟨lb,4,none⟩=some (.bool an)->
   S=(if an then(fr,e,true)else(if U=true/\I<=min P e then(I,min P e,true)else(0,0,false)))->(un= -1->e=1099511627776)->(un≠ -1->e=un - 1)->AF AD 43 #[ptB t,.string c,.int .i64 a] w λe w'=>e= .returned (acH S)/\AW w.heap.size w w':=by
  clear C ac H I P U he st;intro st I P U C ac ak h1 h2;have H:=AE ak;clear ak;by_cases hu:un= -1
  ·obtain rfl:=h1 hu;subst hu;clear h1 h2
   cases st with
   | true=>
    go_enter Tryz.func43,Tryz.ntmps43
    go_wp2_with (go_at_call 90;refine F.mono ?_;rintro e w' ⟨rfl,G⟩;obtain rfl:=G.symm)
    go_ret3
    rw[H.out];exact⟨rfl,AH _ _⟩
   | false=>
    go_enter Tryz.func43,Tryz.ntmps43
    go_upto_region 11 with(first
     | (go_at_call 90;refine F.mono ?_;rintro e w' ⟨rfl,G⟩;obtain rfl:=G.symm)
     | (go_at_call 100;refine C.mono ?_;rintro e w2 ⟨rfl,k2⟩;have V:=AE k2;clear k2))
    clear F C;obtain⟨K,J⟩:∃K,min P 1099511627776=K:=⟨_,rfl⟩;rw[J]at H⊢;clear J
    cases U with
    | false=>
     go_wp2;go_ret3
     rw[H.out];exact⟨rfl,V.out⟩
    | true=>
     by_cases hm:I<=K
     ·have ab:decide (K<I)=false:=decide_eq_false no;have Y:=AE hm;clear hm;go_wp2;go_ret3
      rw[H.out,if_neg Ad,if_pos (by simpa using Y.out)];exact⟨rfl,V.out⟩
     ·have ab:decide (K<I)=true:=decide_eq_true no;have Y:=AE hm;clear hm;go_wp2;go_ret3
      rw[H.out,if_neg Ad,if_neg (by have:=Y.out;simp;omega)];exact⟨rfl,V.out⟩
  ·obtain rfl:=h2 hu;have ar:(un== -1)=false:=beq_eq_false_iff_ne.2 hu;have au:IntKind.i64.wrap (un - 1)=un - 1:=by rw[IntKind.wrap_i64];omega
   clear h1 h2 hu
   cases st with
   | true=>
    go_enter Tryz.func43,Tryz.ntmps43
    go_wp2_with (go_at_call 90;refine F.mono ?_;rintro e w' ⟨rfl,G⟩;obtain rfl:=G.symm)
    go_ret3
    rw[H.out];exact⟨rfl,AH _ _⟩
   | false=>
    go_enter Tryz.func43,Tryz.ntmps43
    go_upto_region 11 with(first
     | (go_at_call 90;refine F.mono ?_;rintro e w' ⟨rfl,G⟩;obtain rfl:=G.symm)
     | (go_at_call 100;refine C.mono ?_;rintro e w2 ⟨rfl,k2⟩;have V:=AE k2;clear k2))
    clear F C;obtain⟨K,J⟩:∃K,min P (un - 1)=K:=⟨_,rfl⟩;rw[J]at H⊢;clear J
    cases U with
    | false=>
     go_wp2;go_ret3
     rw[H.out];exact⟨rfl,V.out⟩
    | true=>
     by_cases hm:I<=K
     ·have ab:decide (K<I)=false:=decide_eq_false no;have Y:=AE hm;clear hm;go_wp2;go_ret3
      rw[H.out,if_neg Ad,if_pos (by simpa using Y.out)];exact⟨rfl,V.out⟩
     ·have ab:decide (K<I)=true:=decide_eq_true no;have Y:=AE hm;clear hm;go_wp2;go_ret3
      rw[H.out,if_neg Ad,if_neg (by have:=Y.out;simp;omega)];exact⟨rfl,V.out⟩
 exact key st I P U C ac H.out (λh=>by rw[he,if_pos h]) (λh=>by rw[he,if_neg h])
theorem q_Span(h:TM w t m E)(C:TOk (trE E))(c:Nm)(a:Int):
  AF AD 43 #[ptB t,.string c,.int .i64 a] w λe w'=>e= .returned (acH (gX (trE E) c a))/\mBw w w':=by
 unfold gX;rw[<-h.tAt]
 cases hl:atE E c a with
 | none=>exact q_SpanN h hl
 | some l=>exact q_SpanI h C hl
section
variable {w:World} {g:Nat} {sl:Value} {S:List St}
theorem abg{P:Program}{fn:Func}{p q u:Tmp}{ty:TypeId}(h:fn.results=#[.cell p ty,.cell q ty,.tmp u])(tmps:Array Value)(w:World)(g f:Nat)(t t':TypeId)(cs C:Array Value)(d:TypeDesc)
  (hp:tmps.getD p undef= .pointer (some ⟨g,0,none⟩))(F:tmps.getD q undef= .pointer (some ⟨f,0,none⟩))(I:w.heap[g]? =some (.cells cs t (0,0)))(hf:w.heap[f]? =some (.cells C t' (0,0)))
  (H:P.underlying ty=some d)(G:(match d with | .struct _ | .array _ _=>true | _=>false)=true)(hi:(P.info? ty).map (·.size)=some cs.size)(J:(P.info? ty).map (·.size)=some C.size):
  (results fn tmps).run P w= .ok (.tuple #[.agg cs,.agg C,tmps.getD u undef]) w:=by
 have hp:tmps[p]?.getD undef= .pointer (some ⟨g,0,none⟩):=by simpa using hp
 have F:tmps[q]?.getD undef= .pointer (some ⟨f,0,none⟩):=by simpa using F
 simp only[results,h];simp[Sem.run_bind,Result.andThen,hp,F,asAddr,run_loadVar_row w g t ty cs _ d I H G hi,run_loadVar_row w f t' ty C _ d hf H G J]
variable{c:Int}
theorem Road.bad(hr:Road S a z y c):c≠0->z=zst/\y=zst:=by
 cases hr<;>first | exact λ_=>Ai | exact λh=>absurd rfl h
theorem Road.idx(hr:Road S a z y c):c=0->S[plN S (a+1) - 1]? =some z/\S[plN S a]? =some y:=by
 cases hr with
 | Q f hf hb l hl hn ha y hy ey hp eq1=>exact λ_=>⟨by rw[eq1,Nat.add_sub_cancel];exact hy,hy⟩
 | M f hf hb l hl hn ha y hy ey hp h0 eq1 z hz=>exact λ_=>⟨by rw[eq1];exact hz,hy⟩
 | _=>intro h;cases h
theorem StL.mono{b o:Nat}{x:St}(h:StL w b o x)(hb:AW w.heap.size w W):StL W b o x:=by
 obtain⟨h1,cs,h2,h3,C⟩:=h;exact⟨h1.mono hb,cs,h2.mono hb,h3.mono hb,C.mono hb⟩
theorem fV(w:World):aZ w (zst.pose.cs.map Fq.raw) ai:=by
 obtain⟨cs,e,h⟩:=dC w;injection e with e;rw[show ai=cs by simpa using congrArg Array.toList e];exact h
set_option maxHeartbeats 1000000 in
theorem k_rAround(h:TrkS 185 w g sl S)(hS:GoodS S)(Z:Road S a z y c):AF AD 168 #[ptG g,.int .i64 a] w λe w'=>∃v0 v1,e= .returned (.tuple #[v0,v1,.int .i64 c])/\aaX w' v0 z/\aaX w' v1 y/\AW w.heap.size w w':=by
 have hn:=hS.len;obtain⟨ad,c1,ay,g0⟩:=h.form;go_enter Tryz.func168,Tryz.ntmps168
 refine bf 108 [(0,ptG g),(1,.int .i64 a)] λC=> ?_
 (repeat first | refine BQ ?_ | refine Cr ?_);refine bg ?_;refine vA C 22 λ{_ W4 B4 a0} G an C=> ?_
 refine vA C 22 λ{_ W5 B5 a1} F ao C=> ?_
 refine sZ C ?_;intro _ C;have ar:=F.bel;have ab:=G.bel.trans (F.bel.mono G.bel.size);have U:B5≠B4:=by have:=(A2.1 G.blk).1;have:=F.ge;omega
 have F:VB w W5 120 B5 a1:=⟨F.blk,ab,AG G.bel.size F.ge,F.nu⟩;have G:VB w W5 120 B4 a0:=G.next ar;have hb:=AH W5.heap.size W5;have f0:=g0.mono ab;subst ay;rcases Z.at with⟨rfl,h0⟩ | ⟨f,l,h0,hf,hl,hr⟩
 ·obtain⟨rfl,rfl⟩:=Z.bad it;refine sX C ?_;intro _ C;refine mCt C ?_;(repeat first | refine BQ ?_ | refine Cr ?_);refine bg ?_;refine wY C (.agg (AN .i64 zst.tm::ai).toArray) (by unfold ai;go_simp;try rfl) λC=> ?_
  refine wY C (.agg (AN .i64 zst.tm::ai).toArray) (by unfold ai;go_simp;try rfl) λC=> ?_
  refine vFS G an (fV w) C λG u C=> ?_
  refine vFS (F.upd u U G) ao (fV w) C λF u C=> ?_
  refine sZ C ?_;intro _ C;refine Cs ?_
  repeat first | refine jB ?_ | refine jC ?_
  refine Ba (abg rfl _ _ _ _ _ _ _ _ _ (C.gt 4) (C.gt 5) (G.upd u U.symm F).blk F.blk En rfl Aa Aa) C.df ?_;rw[C.gt 6];exact⟨_,_,rfl,⟨_,rfl,fV _⟩,⟨_,rfl,fV _⟩,F.bel⟩
 ·obtain⟨b,o,c2,e,J⟩:=h.parts (jv hf);injection e with e1 e2 e3;subst e1;subst e3;clear e2;have Y:∀k x,S[k]? =some x->StL W5 b (o+k*22) x:=λk x hx=>(J k x hx).mono ab
  obtain⟨f1,_⟩:=Y _ f hf;obtain⟨f2,_⟩:=Y _ l hl;rcases hr with⟨rfl,hr⟩ | ⟨rfl,r1,r2,hp,hy,hr⟩
  ·obtain⟨rfl,rfl⟩:=Z.bad it;refine sX C ?_;intro _ C;refine ci C ?_;refine gD (λa' w'=>False) ?_ (λa' w' V=>V.elim);refine gD (λa' w'=>Kn 108 [(4,.pointer (some ⟨B4,0,none⟩)),(5,.pointer (some ⟨B5,0,none⟩)),(44,.bool true)] a'/\AW W5.heap.size W5 w') ?_ (λa' w' V=> ?_)
   ·rcases hr with hr | ⟨hr,a2⟩
    ·refine uX C ?_;intro _ C w' aa;exact⟨C.ct,Ak⟩
    ·refine uA C ?_;intro _ C;refine uN C ((S.length - 1:Nat)) λC=> ?_
     refine uZ C ?_;intro _ C w' aa;exact⟨C.ct,Ak⟩
   ·obtain⟨C,hb⟩:=V;have G:=G.next hb;have F:=F.next hb;refine mCt C ?_;(repeat first | refine BQ ?_ | refine Cr ?_);refine bg ?_;refine wY C (.agg (AN .i64 zst.tm::ai).toArray) (by unfold ai;go_simp;try rfl) λC=> ?_
    refine wY C (.agg (AN .i64 zst.tm::ai).toArray) (by unfold ai;go_simp;try rfl) λC=> ?_
    refine vFS G an (fV w) C λG u C=> ?_
    refine vFS (F.upd u U G) ao (fV w) C λF u C=> ?_
    refine sZ C ?_;intro _ C;refine Cs ?_
    repeat first | refine jB ?_ | refine jC ?_
    refine Ba (abg rfl _ _ _ _ _ _ _ _ _ (C.gt 4) (C.gt 5) (G.upd u U.symm F).blk F.blk En rfl Aa Aa) C.df ?_;rw[C.gt 6];exact⟨_,_,rfl,⟨_,rfl,fV _⟩,⟨_,rfl,fV _⟩,F.bel⟩
  ·refine sX C ?_;intro _ C;refine ci C ?_;refine uA C ?_;intro _ C;refine uN C ((S.length - 1:Nat)) λC=> ?_
   refine uZ C ?_;intro _ C w' aa;refine ci C ?_;refine uA C ?_;intro _ C;refine uN C ((S.length - 1:Nat)) λC=> ?_
   refine uZ C ?_;intro _ C w' aa;clear hb;have hb:=aa;obtain⟨w6,aq⟩:∃w6,w6=w':=⟨_,rfl⟩;rw[<-aq]at hb⊢;have au:=f0;have C:=C.ct (l':=[(0,ptG g),(1,.int .i64 a),(4,.pointer (some ⟨B4,0,none⟩)),(5,.pointer (some ⟨B5,0,none⟩)),(7,.int .i64 0),(8,.int .i64 ((S.length - 1:Nat):Int))]);have hq:=ii S (a+1);have hq1:0<plN S (a+1):=by
    rcases Nat.eq_zero_or_pos (plN S (a+1))with e | e
    ·exact absurd (show f.tm<a+1 by omega) (ku hS.sort no hf)
    ·exact e
   refine gD (λa' wr=>Kn 108 [(0,ptG g),(1,.int .i64 a),(4,.pointer (some ⟨B4,0,none⟩)),(5,.pointer (some ⟨B5,0,none⟩)),(7,.int .i64 ((plN S (a+1) - 1:Nat):Int)),(8,.int .i64 ((S.length - 1:Nat):Int))] a'/\wr=w6) ?_ (λa' wr V=> ?_)
   ·refine sX C ?_;intro _ C;refine eW (λa' wr=>∃k:Nat,Kn 108 [(0,ptG g),(1,.int .i64 a),(4,.pointer (some ⟨B4,0,none⟩)),(5,.pointer (some ⟨B5,0,none⟩)),(7,.int .i64 ((min k (plN S (a+1)) - 1:Nat):Int)),(8,.int .i64 ((S.length - 1:Nat):Int)),(9,.int .i64 (k:Int))] a'/\k<=S.length/\wr=w6) (λa' _=>S.length - (intOf (a'.tmps.getD 9 undef)).toNat) ⟨0,by rw[Nat.zero_min];exact C.ct,A3 _,rfl⟩ (λa' wr V=> ?_);clear C;obtain⟨k,C,ap,rfl⟩:=V;have ak:(intOf (a'.tmps.getD 9 undef)).toNat=k:=by rw[C.gt 9];simp[intOf]
    rw[ak];rcases Nat.lt_or_eq_of_le ap with ac | rfl
    ·obtain⟨x,hx⟩:∃x,S[k]? =some x:=⟨_,AM ac⟩;obtain⟨f3,_⟩:=Y _ x hx;refine sX C ?_;intro _ C;refine mD C ?_;by_cases hkp:k<plN S (a+1)
     ·obtain⟨x',H,am⟩:=eR hkp;rw[hx]at H;injection H with H;subst H;refine sX C ?_;intro _ C;refine mCt C ?_;refine sX C ?_;intro _ C;refine sA C ?_;intro _ C;refine vN C ((k+1:Nat)) λC=> ?_
      refine sD C ?_;intro _ C;refine wln ?_;refine mUp ?_;refine⟨⟨k+1,by rw[show min (k+1) (plN S (a+1)) - 1=k by omega];exact C.ct,ac,rfl⟩,?_⟩;rw[C.gt 9];simp only[intOf];omega
     ·have am:=ku hS.sort (DQ hkp) hx;refine sX C ?_;intro _ C;refine ci C ?_;refine sA C ?_;intro _ C;refine vN C ((k+1:Nat)) λC=> ?_
      refine sD C ?_;intro _ C;refine wln ?_;refine mUp ?_;refine⟨⟨k+1,by rw[show min (k+1) (plN S (a+1)) - 1=min k (plN S (a+1)) - 1 by omega];exact C.ct,ac,rfl⟩,?_⟩;rw[C.gt 9];simp only[intOf];omega
    ·refine sX C ?_;intro _ C;refine mCf C ?_;refine mEx ?_;rw[Nat.min_eq_right hq]at C;exact⟨C.ct,rfl⟩
   ·obtain⟨C,rfl⟩:=V;clear aq;refine gD (λa' wq=>Kn 108 [(0,ptG g),(1,.int .i64 a),(4,.pointer (some ⟨B4,0,none⟩)),(5,.pointer (some ⟨B5,0,none⟩)),(7,.int .i64 ((plN S (a+1) - 1:Nat):Int)),(8,.int .i64 ((plN S a:Nat):Int))] a'/\wq=wr) ?_ (λa' wq V=> ?_)
    ·refine sA C ?_;intro _ C;refine vN C ((S.length - 1:Nat)) λC=> ?_
     refine sZ C ?_;intro _ C;refine eW (λa' wq=>∃m:Nat,Kn 108 [(0,ptG g),(1,.int .i64 a),(4,.pointer (some ⟨B4,0,none⟩)),(5,.pointer (some ⟨B5,0,none⟩)),(7,.int .i64 ((plN S (a+1) - 1:Nat):Int)),(8,.int .i64 ((max (plN S a) (min m (S.length - 1)):Nat):Int)),(10,.int .i64 ((m:Int) - 1))] a'/\m<=S.length/\wq=wr) (λa' _=>(intOf (a'.tmps.getD 10 undef)+1).toNat) ⟨S.length,by rw[show max (plN S a) (min S.length (S.length - 1))=S.length - 1 by omega,show(S.length:Int) - 1=((S.length - 1:Nat):Int)by omega];exact C.ct,AI _,rfl⟩ (λa' wq V=> ?_);clear C;obtain⟨m,C,ap,rfl⟩:=V;have ak:(intOf (a'.tmps.getD 10 undef)+1).toNat=m:=by rw[C.gt 10];simp[intOf]
     rw[ak]
     cases m with
     | zero=>
      refine sX C ?_;intro _ C;refine mCf C ?_;refine mEx ?_;rw[Nat.zero_min,Nat.max_zero]at C;exact⟨C.ct,rfl⟩
     | succ k=>
      rw[show(((k+1:Nat):Int)) - 1=(k:Int)by omega]at C;obtain⟨x,hx⟩:∃x,S[k]? =some x:=⟨_,AM no⟩;obtain⟨f3,_⟩:=Y _ x hx;refine sX C ?_;intro _ C;refine mD C ?_;by_cases hkp:k<plN S a
      ·obtain⟨x',H,am⟩:=eR hkp;rw[hx]at H;injection H with H;subst H;refine sX C ?_;intro _ C;refine ci C ?_;refine sA C ?_;intro _ C;refine vN C (((k:Int) - 1)) λC=> ?_
       refine sD C ?_;intro _ C;refine wln ?_;refine mUp ?_;refine⟨⟨k,by rw[show max (plN S a) (min k (S.length - 1))=max (plN S a) (min (k+1) (S.length - 1))by omega];exact C.ct,no,rfl⟩,?_⟩;rw[C.gt 10];simp only[intOf];omega
      ·have am:=ku hS.sort (DQ hkp) hx;refine sX C ?_;intro _ C;refine mCt C ?_;refine sX C ?_;intro _ C;refine sA C ?_;intro _ C;refine vN C (((k:Int) - 1)) λC=> ?_
       refine sD C ?_;intro _ C;refine wln ?_;refine mUp ?_;refine⟨⟨k,by rw[show max (plN S a) (min k (S.length - 1))=k by omega];exact C.ct,no,rfl⟩,?_⟩;rw[C.gt 10];simp only[intOf];omega
    ·obtain⟨C,rfl⟩:=V;obtain⟨hz,hy⟩:=Z.idx rfl;obtain⟨_,cz,P,_,k3⟩:=J _ z hz;obtain⟨_,cy,K,_,k6⟩:=J _ y hy;have G:=G.next hb.drew;have F:=F.next hb.drew;clear f0 au f1 f2 Y J;(repeat first | refine BQ ?_ | refine Cr ?_);refine Df (S:=λw'=>AW w.heap.size w w') Aa F.bel (λI=> ?_);refine yK 0 C I λC=> ?_
     refine yK 1 C I λC=> ?_
     refine yK 2 C I λC=> ?_
     refine yK 3 C I λC=> ?_
     refine yK 4 C I λC=> ?_
     refine yK 5 C I λC=> ?_
     refine yK 6 C I λC=> ?_
     refine yK 7 C I λC=> ?_
     refine yK 8 C I λC=> ?_
     refine yK 9 C I λC=> ?_
     refine yK 10 C I λC=> ?_
     refine yK 11 C I λC=> ?_
     refine yK 12 C I λC=> ?_
     refine yK 13 C I λC=> ?_
     obtain⟨W7,av,G,u⟩:=G.fill (cs:=.int .i64 z.tm::cz) (by rw[an,Bh,aw P];rfl) (aa7 P) (sE P) (by rw[Bh,aw P];rfl);refine yW 14 C W7 (λe=>by cases e;exact kT C rfl rfl rfl av) G.bel λC=> ?_
     obtain⟨W8,ax,F,u8⟩:=(F.upd u U G).fill (cs:=.int .i64 y.tm::cy) (by rw[ao,Bh,aw K];rfl) (aa7 K) (sE K) (by rw[Bh,aw K];rfl);refine yW 15 C W8 (λe=>by cases e;exact kT C rfl rfl rfl ax) F.bel λC=> ?_
     refine yV 16 C _ _ (λe=>by cases e;exact ju C rfl rfl) F.bel λC=>CR Aa ?_ _
     refine mUp ?_;refine Cs ?_
     repeat first | refine jB ?_ | refine jC ?_
     refine Ba (abg rfl _ _ _ _ _ _ _ _ _ (C.gt 4) (C.gt 5) (G.upd u8 U.symm F).blk F.blk En rfl (by rw[BW,Bh,aw P];rfl) (by rw[BW,Bh,aw K];rfl)) C.df ?_;rw[C.gt 6];exact⟨_,_,rfl,⟨_,rfl,P.mono F.bel⟩,⟨_,rfl,K.mono F.bel⟩,F.bel⟩
end
section
variable {w:World} {g:Nat} {sl:Value} {S:List St}
theorem Road.two{c:Int}(hr:Road S a z y c)(C:GoodS S):c=0->GoodT z/\GoodT y/\(z=y\/z.tm<a/\a<y.tm/\¬opp z.pose y.pose):=by
 cases hr with
 | Q f hf hb l hl hn ha y hy ey hp eq1=>exact λ_=>⟨C.at hy,C.at hy,.inl rfl⟩
 | M f hf hb l hl hn ha y hy ey hp h0 eq1 z hz=>
  obtain⟨x,F,G⟩:=eR (S:=S) (a:=a) (k:=plN S a - 1) no;rw[hz]at F;injection F with F;subst F;exact λ_=>⟨C.at hz,C.at hy,.inr ⟨G,ey,C.adj _ z y hz (by rw[show plN S a - 1+1=plN S a by omega];exact hy)⟩⟩
 | _=>intro h;cases h
set_option maxHeartbeats 1000000 in
theorem k_rAt(h:TrkS 185 w g sl S)(hS:GoodS S){c:Int}(aq:Road S a z y c):AF AD 99 #[ptG g,.int .i64 a] w λe w'=>∃v,e= .returned (.tuple #[v,.int .i64 c])/\aR w' v (atP z y c a)/\AW w.heap.size w w':=by
 go_enter Tryz.func99,Tryz.ntmps99
 refine bf 54 [(0,ptG g),(1,.int .i64 a)] λC=> ?_
 (repeat first | refine BQ ?_ | refine Cr ?_);refine bg ?_;refine vA C 21 λ{_ W0 B vs} V hz C=> ?_
 refine sZ C ?_;intro _ C;have hb:=AH W0.heap.size W0;refine sA C ?_;intro _ C;refine wC C (af Tryz.func168 rfl rfl) (k_rAround (h.mono V.bel) hS aq) λ{e w1} hr=> ?_
 obtain⟨_,_,rfl,⟨cz,rfl,H⟩,⟨cy,rfl,ab⟩,an⟩:=hr;refine⟨_,rfl,λ_ C=> ?_⟩;clear hb;refine sD C ?_;intro _ C;refine vA C 22 λ{_ W6 B6 a6} K a0 C=> ?_
 refine vA C 22 λ{_ W7 B7 a2} F a1 C=> ?_
 have am:=F.bel;have ap:B7≠B6:=by have:=(A2.1 K.blk).1;have:=F.ge;omega
 have F:VB w1 W7 120 B7 a2:=⟨F.blk,K.bel.trans (am.mono K.bel.size),AG K.bel.size F.ge,F.nu⟩;refine vFS (K.next am) a0 H C λK u C=> ?_
 refine vFS (F.upd u ap K) a1 ab C λ{_ W8} F u C=> ?_
 have K:=K.upd u ap.symm F;refine sZ C ?_;intro _ C;obtain⟨g1,g2,g3⟩:=K.st H;obtain⟨k1,k2,k3⟩:=F.st ab;have b8:=an.trans (F.bel.mono an.size);have hb:=AH W8.heap.size W8;by_cases hc:c=0
 ·subst hc;obtain⟨gz,gy,ax⟩:=aq.two hS rfl;have z0:=gz.lo;have z1:=gz.hi;have y0:=gy.lo;have y1:=gy.hi;rcases ax with rfl | ⟨a5,a4,ay⟩
  ·rw[show atP z z 0 a=z.pose by simp[atP]];refine sX C ?_;intro _ C;refine ci C ?_;refine sX C ?_;intro _ C;refine mCt C ?_;refine sA C ?_;intro _ C;have V4:=V.next b8;refine vFR V4 (H.mono F.bel) hz C λV5 U C=> ?_
   refine sZ C ?_;intro _ C;refine Cs ?_
   repeat first | refine jB ?_ | refine jC ?_
   refine Ba (V5.ret (by rw[BW,aw H];rfl) rfl _ (C.gt 4)) C.df ?_;rw[C.gt 5];exact⟨_,rfl,⟨cz,rfl,(H.mono F.bel).upd V4.own U⟩,V5.bel⟩
  ·refine sX C ?_;intro _ C;refine ci C ?_;refine sX C ?_;intro _ C;refine ci C ?_;refine sA C ?_;intro _ C;refine vN C ((a - z.tm)) λC=> ?_
   refine sD C ?_;intro _ C;refine vN C ((y.tm - z.tm)) λC=> ?_
   refine wC C (af Tryz.func169 rfl rfl) (xQ (a - z.tm) (y.tm - z.tm) W8 no no no no no) λ{e a7} hr=> ?_
   obtain⟨v,rfl,hq,Y⟩:=hr;obtain⟨cm,rfl,ao⟩:=acz hq;refine⟨_,rfl,λ_ C=> ?_⟩;clear hb;refine sD C ?_;intro _ C;refine vA C 3 λI ar C=> ?_
   refine vFR I ao ar C λ{_ aa} I _ C=> ?_
   refine sZ C ?_;intro _ C;have P:=Y.trans (I.bel.mono Y.size);have ad:=b8.trans (P.mono b8.size);have g2:=g2.mono P;have k2:=k2.mono P;have f:=I.fr ao;have hb:=AH aa.heap.size aa;have ak:=F.bel.trans (P.mono F.bel.size);refine sA C ?_;intro _ C;refine wC C (af Tryz.func170 rfl rfl) (yx _ _ _ z.pose y.pose (Fq.ratio (a - z.tm) (y.tm - z.tm)) aa ⟨cz,rfl,H.mono ak⟩ ⟨cy,rfl,ab.mono ak⟩ (hq.mono I.bel) (gz.ok.mono it) (gy.ok.mono it) ((iM no no no no no).mono it) gz.good gy.good (dv no) ay) λ{e a9} hr=> ?_
   obtain⟨_,rfl,⟨cr,rfl,G⟩,Z⟩:=hr;refine⟨_,rfl,λ_ C=> ?_⟩;clear hb;refine sD C ?_;intro _ C;refine vA C 21 λJ au C=> ?_
   refine vFR J G au C λ{_ ac} J _ C=> ?_
   refine sZ C ?_;intro _ C;have a3:=J.fr G;have hb:=AH ac.heap.size ac;refine sA C ?_;intro _ C;have av:=Z.trans (J.bel.mono Z.size);have V4:=V.next (ad.trans (av.mono ad.size));have G:=G.mono J.bel;refine vFR V4 G hz C λV5 U C=> ?_
   refine sZ C ?_;intro _ C;refine Cs ?_
   repeat first | refine jB ?_ | refine jC ?_
   refine Ba (V5.ret (by rw[BW,aw G];rfl) rfl _ (C.gt 4)) C.df ?_;rw[C.gt 5,show atP z y 0 a=_ from(if_neg Ad).trans (if_neg no)];exact⟨_,rfl,⟨cr,rfl,G.upd V4.own U⟩,V5.bel⟩
 ·rw[show atP z y c a=Pq.zero from if_pos hc];refine sX C ?_;intro _ C;refine mCt C ?_;(repeat first | refine BQ ?_ | refine Cr ?_);refine bg ?_;refine wY C (.agg ai.toArray) (by unfold ai;go_simp;try rfl) λC=> ?_
  refine sD C ?_;intro _ C;refine vFR (V.next b8) (cs:=ai) (rs:=Pq.zero.cs.map Fq.raw) (fV w) hz C λV2 _ C=> ?_
  refine sZ C ?_;intro _ C;refine Cs ?_
  repeat first | refine jB ?_ | refine jC ?_
  refine Ba (V2.ret rfl rfl _ (C.gt 4)) C.df ?_;rw[C.gt 5];exact⟨_,rfl,dC _,V2.bel⟩
end
section
open Classical
variable{L:List Rl}
theorem PlS.tat{i:Int}(h:PlS L c a i)(F:TOk (trR L)):(i= -1/\tAt (trR L) c a=none)\/∃(k:Nat)(l:Rl),i=(k:Int)/\L[k]? =some l/\l.c=c/\tAt (trR L) c a=some l.x:=by
 rcases h with⟨h1,h2⟩ | ⟨k,l,h1,h2,h3,C⟩
 ·exact .inl ⟨h1,h2.tAt⟩
 ·exact .inr ⟨k,l,h1,h2,h3,C.tAt (F.row c)⟩
theorem RM.pose{n U k:Nat}{l:Rl}{b:Nat}(h:RM w t (.slice (some ⟨b,0,none⟩) n U) L)(K:L[k]? =some l):
  ∃cs:List Value,cs.length=21/\w.rangeAt b (k*27+5) cs/\aR w (.agg cs.toArray) l.x.po:=by
 obtain⟨xs,⟨h1,_⟩,h3⟩:=h.row;have Y:=(A1.1 K).1;have Z:xs.length=L.length*27:=by rw[h3.1,qK]
 have hn:n=L.length:=by
  obtain⟨ad,c,e⟩:=h.form;injection e
 subst hn;have J:∀j,j<21->((xs.drop (k*27+5)).take 21)[j]? =xs[k*27+(5+j)]? :=λj F=>by rw[BJ,if_pos F,Cw];congr 1;omega
 have C:((xs.drop (k*27+5)).take 21).length=21:=by rw[A9,CB];omega
 refine⟨(xs.drop (k*27+5)).take 21,C,λj v F=> ?_,⟨_,rfl,mC (xs:=l.x.po.cs) C (λj q P=> ?_)⟩⟩
 ·have H:j<21:=by have:=(A1.1 F).1;omega
  rw[J j H]at F;obtain⟨g,G,V⟩:=di h1 F;injection G with G;injection G with G;subst G;rw[Nat.add_assoc];exact V
 ·have F:j<21:=(A1.1 P).1;have I:l.qs[5+j]? =some q:=by
   show([.val (.string l.c),.val (.string l.x.par),.val (.int .i64 l.x.fr),.val (.int .i64 l.x.un),.val (.bool l.x.st)]++(frs l.x.po.cs++ [.val (ptB l.g)]):List Vp)[5+j]? =some q;rw[Bw Ad,BB (by show 5+j - 5<21;omega)];rw[show 5+j - ([.val (.string l.c),.val (.string l.x.par),.val (.int .i64 l.x.fr),.val (.int .i64 l.x.un),.val (.bool l.x.st)]:List Vp).length=j from by show 5+j - 5=j;omega];exact P
  obtain⟨u,k1,k2,_⟩:=h3.2 (k*27+(5+j)) q (by rw[wk K no];exact I);exact⟨u,by rw[J j F];exact k1,k2⟩
set_option maxHeartbeats 2000000 in
theorem q_EdgeR(h:RM w t v L)(hR:TOk (trR L))(c:Nm)(a:Int)(hn:L.length<=1000000):
  AF AD 42 #[ptB t,.string c,.int .i64 a] w λe w'=>∃v,e= .returned (.tuple #[v,.int .i64 (bC (trR L) c a).2])/\aR w' v (bC (trR L) c a).1/\AW w.heap.size w w':=by
 have am:=PB.new w;have an:=mF (h.below am.bel) c a hn;have Z:=AE am;have HM:=AE (show∀wq,AW w.heap.size w wq->RM wq t v L from λwq k=>h.below k);have HR:=AE hR;obtain⟨ad,cp,hv⟩:=h.form;obtain⟨n,hN⟩:∃n,n=L.length:=⟨_,rfl⟩;have HN:=AE hN;rw[<-hN]at hv hn;subst hv;have a6:(n:Int)<=1000000:=no
 obtain⟨W,hW⟩:∃W,w.alloc (.cells ai.toArray 39)=W:=⟨_,rfl⟩;rw[hW]at an Z;clear h hN hn hR am;go_enter Tryz.func42,Tryz.ntmps42
 go_upto_region 0 with(fail)
 refine Bn ?_;refine ae rfl (v:=.pointer (some ⟨w.heap.size,0,none⟩)) (w':=W) (by subst hW;go_simp;try rfl) ?_;obtain⟨B,hB⟩:∃B,w.heap.size=B:=⟨_,rfl⟩;rw[hB]at Z⊢;clear hW hB;go_upto_if 14 with(go_at_call 96;refine an.mono ?_;rintro e w1 ⟨i,rfl,hi,hb⟩;have HP:=AE (hi.tat HR.out);have U:=AE (Z.out.next hb);clear an hi hb)
 rcases HP.out with⟨hi,hp⟩ | ⟨k,l,hi,C,hc,hp⟩
 ·subst hi;have HE:=AE (show bC (trR L) c a=(Pq.zero,18)by unfold bC;rw[hp]);clear hp;go_upto_region 3 with(fail)
  refine Bn ?_;refine ae rfl (v:=.agg ai.toArray) (w':=w1) (by unfold ai;go_simp;try rfl) ?_;refine Ca rfl _ _ _ rfl B 0 ai.toArray rfl rfl U.out.there Aa Aa ?_;have aq:=AE (U.out.put (us:=ai) rfl U.out.nu);generalize w1.setCells B 0 ai.toArray.toList=W2 at *;go_wp2;refine Ba (aq.out.ret rfl _ rfl) rfl ?_;rw[HE.out];exact⟨_,rfl,dC _,aq.out.bel⟩
 ·subst hi;have au:=(A1.1 C).1;have a5:(k:Int)<(n:Int):=by rw[HN.out];omega
  have q0:decide ((k:Int)<0)=false:=decide_eq_false no;have H:=HM.out w1 U.out.bel;have a4:=H.cell;obtain⟨b,c2,cs,e,A⟩:=H.at C;injection e with V e2 e3;subst V;subst e3;clear e2;have fst:=A.st;have ar:=A.tp
  cases hs:l.x.st with
  | true=>
   rw[hs]at fst;have HE:=AE (show bC (trR L) c a=(l.x.po,0)by unfold bC;rw[hp];simp only[hs];rfl);obtain⟨us,F,av,ak⟩:=H.pose C;obtain⟨ap,e',J,K⟩:∃ap:List Value,us=ap/\us.toArray.all (·.oneCell')=true/\∀u∈us,noU u:=by
    obtain⟨a3,V,_,h3,h4⟩:=dJ ak;have V:us=a3:=by injection V with V;simpa using V
    exact⟨us,rfl,by rw[V];exact h3,by rw[V];exact h4⟩
   clear e' ap;have ax:=AE av;have I:=AE (U.out.put (us:=us) F K);have HV:=AE (U.out.keep (us:=us) ak);have ay:=AE (show(AD.info? 39).map (·.size)=some us.length by rw[F];kernel_rfl);have G:=U.out.there;rw[<-F]at G;have a0:=AE G;have a2:=AE F;have a1:=AE J;clear A H C au hc hp hs av ak K G F J ar;go_upto_region 5 with(fail)
   refine bf 44 [(0,ptB t),(2,.int .i64 a),(6,ptB B),(8,.int .i64 (k:Int))] λC=> ?_
   refine bg ?_
   repeat refine wS C λC=> ?_
   refine wF C (ptB t) λC=> ?_
   refine wL C (.slice (some ⟨b,0,none⟩) n cp) λC=> ?_
   repeat refine wS C λC=> ?_
   refine wI C (.pointer (some ⟨b,k*27,none⟩)) λC=> ?_
   refine wF C (.pointer (some ⟨b,k*27+5,none⟩)) λC=> ?_
   refine wL C (.agg us.toArray) (hr:=run_loadAt_mid _ _ _ _ us _ ax.out CD rfl ay.out) λC=> ?_
   refine wT C (w1.setCells B 0 us) (hr:=run_storeAt_mid _ _ _ _ us.toArray (by simpa using a0.out) (bc a2.out) a1.out) λC=> ?_
   repeat refine wS C λC=> ?_
   generalize aa:w1.setCells B 0 us=W2 at *;clear aa;go_wp2;refine Ba (I.out.ret rfl _ (C.getD rfl)) C.df ?_;rw[HE.out,C.gt 7];exact⟨_,rfl,HV.out,I.out.bel⟩
  | false=>
   rw[hs]at fst;have ac:=HR.out.good _ (A5 (j5 C));obtain⟨z,y,cc,Y⟩:=road ac a;have HE:=AE (show bC (trR L) c a=(atP z y cc a,cc)by unfold bC;rw[hp];simp only[hs];exact Y.trkP);have ab:=k_rAt (H.trk l (A5 C)) ac Y
   change AF AD 99 #[ptB l.g,.int .i64 a] w1 _ at ab
   clear A H C au hc hp hs ac Y;generalize l.g=lg at *;generalize atP z y cc a=po at *;go_upto_region 6 with(fail)
   refine bf 44 [(0,ptB t),(2,.int .i64 a),(6,ptB B),(8,.int .i64 (k:Int))] λC=> ?_
   refine bg ?_
   repeat refine wS C λC=> ?_
   refine wF C (ptB t) λC=> ?_
   refine wL C (.slice (some ⟨b,0,none⟩) n cp) λC=> ?_
   repeat refine wS C λC=> ?_
   refine wI C (.pointer (some ⟨b,k*27,none⟩)) λC=> ?_
   refine wF C (.pointer (some ⟨b,k*27+26,none⟩)) λC=> ?_
   refine wL C (ptB lg) λC=> ?_
   repeat refine wS C λC=> ?_
   refine wC C (af Tryz.func99 rfl rfl) (ab) λ{e w4} Y=> ?_
   obtain⟨v,rfl,ao,k4⟩:=Y;obtain⟨us,rfl,F,J,K⟩:=dJ ao;have P:=U.out.next k4;have I:=AE (P.put (us:=us) F K);have HV:=AE (P.keep (us:=us) ao);have G:=P.there;rw[<-F]at G;refine⟨_,rfl,λ_ C=> ?_⟩;clear ao k4 ab fst ar a4
   repeat refine wS C λC=> ?_
   refine wT C (w4.setCells B 0 us) (hr:=run_storeAt_mid _ _ _ _ us.toArray AA (bc F) J) λC=> ?_
   repeat refine wS C λC=> ?_
   generalize aa:w4.setCells B 0 us=W2 at *;clear aa P G J K;go_wp2;refine Ba (I.out.ret rfl _ (C.getD rfl)) C.df ?_;rw[HE.out,C.gt 7];exact⟨_,rfl,HV.out,I.out.bel⟩
end
section
open Classical
def fI(c p:Nm)(f:Int)(g:Nat):List Value:=[.string c,.string p,.int .i64 f,.int .i64 (-1),.bool false]++(ai++ [ptB g])
theorem wt{cs:List Value}(hl:cs.length=27):(Instr.buildSlice 79 1 #[(0,.agg cs.toArray)]).run AD w= .ok (.slice (some ⟨w.heap.size,0,none⟩) 1 1) (w.alloc (.cells cs.toArray rlT)):=by
 match cs,hl with
 | [c0,c1,c2,c3,c4,c5,c6,c7,c8,c9,c10,c11,c12,c13,c14,c15,c16,c17,c18,c19,c20,c21,c22,c23,c24,c25,c26],_=>go_simp
theorem sI(h:∀v∈vs,fE v):aO w (vs.map Vp.val) vs:=⟨Ad,λj q C=>by
 rw[Bp]at C
 cases hv:vs[j]? with
 | none=>rw[hv]at C;cases C
 | some v=>rw[hv]at C;injection C with C;subst C;exact⟨v,rfl,⟨rfl,h v (A5 hv)⟩,λ_ h=>h⟩⟩
theorem abh(w:World):aO w (frs Pq.zero.cs) ai:=by
 obtain⟨F,C,hc⟩:=dC w;have C:ai=F:=by injection C with C;simpa using C
 subst C;exact⟨rfl,λj q G=>iS hc G⟩
theorem att_cells(w:World)(c p:Nm)(f:Int)(g:Nat)(sl:Value):aO w (Rl.qs ⟨c,bF p f,g,sl⟩) (fI c p f g):=
 (sI (vs:=[.string c,.string p,.int .i64 f,.int .i64 (-1),.bool false]) (λv C=>by
  simp only[AY,Dx,or_false]at C;rcases C with rfl | rfl | rfl | rfl | rfl
  ·exact go
  ·exact go
  ·exact cZ it
  ·exact cZ it
  ·exact bJ)).append ((abh w).append (sI (vs:=[ptB g]) (λv C=>by
  obtain rfl:v=ptB g:=by simpa using C
  exact rD)))
variable{ad:Option A0}
theorem att_push{F:World}{n U g:Nat}{L:List Rl}{p:Nm}{f:Int}{sl:Value}(h:RM w t (.slice ad n U) L)(hN:n=L.length)(hn:L.length<=1000000)(hb:AW w.heap.size w F)
  (hg:w.heap.size<=g)(hT:TrkS rkT F g sl [])(hs:∀b,sl.ownBlock=some b->w.heap.size<=b/\bv F b):
  ∃v' P,(BT #[79,79] 79 #[.slice ad n U,.slice (some ⟨F.heap.size,0,none⟩) 1 1]).run AD (F.alloc (.cells (fI c p f g).toArray rlT))= .ok v' P/\
   P.cell? ⟨t,0,none⟩=some (.slice ad n U)/\P.frozen? ⟨t,0,none⟩=false/\RPost w t (.slice ad n U) L (P.setCell ⟨t,0,none⟩ v') v' (L++ [⟨c,bF p f,g,sl⟩]):=by
 have V:bv F g:=bv.mk' hT.blk (λk m e=>by
  cases k with
  | zero=>simp at e;exact((Vp.row stT _ _).fl _ _ hT.row).2.2 m e
  | succ k=>simp at e)
 obtain⟨K,J⟩:∃K,F.alloc (.cells (fI c p f g).toArray rlT)=K:=⟨_,rfl⟩;have C:mBw F K:=by rw[<-J];exact(AH _ _).alloc (AI _) _
 have Y:K.heap[F.heap.size]? =some (.cells (fI c p f g).toArray rlT (0,0)):=by rw[<-J];exact Bs F _
 have G:mBw w K:=hb.trans (C.mono hb.size);obtain⟨xs,hx,ak⟩:=(h.below G).row;have H:t<w.heap.size:=h.lt t (by simp[fpR]);obtain⟨v',P,k1,k2,k3,k4⟩:=mE (p:=AD) (t:=79) (ty:=79) (c:=1) (m:=1) (sz:=27) (bytes:=456) (a:=⟨F.heap.size,0,none⟩) (news:=fI c p f g) Tryz.underlying79 Aa hx rfl
  (λj u I=>by rw[bQ,A7,aH Y];simpa using I) (λu I=>by
   obtain⟨j,hj,e⟩:=BL I;simp only[fI,ai,AJ,AY,Dx,or_false]at I;rcases I with(rfl | rfl | rfl | rfl | rfl) | (rfl | rfl | rfl | rfl | rfl | rfl | rfl | rfl | rfl | rfl | rfl | rfl | rfl | rfl | rfl | rfl | rfl | rfl | rfl | rfl | rfl) | rfl<;>rfl) (λu I m e=>by
   subst e;simp[fI,ai]at I) it no no
 rw[J];have ac:(Value.slice ad n U).ownBlock≠some t:=λe=>by
  have:=h.nd;unfold fpR at this;exact(Bz.1 this).1 (by simp[e])
 have Z:P.heap[t]? =w.heap[t]? :=(k2.block t (Bv H G.size) (λe=>ac e.symm)).trans (G.block t H);refine⟨v',P,k1,(Cb Z).trans h.cell,?_,?_⟩
 ·have:=h.tr;rw[<-Z]at this;simp[Dp,this]
 ·have ab:∀b∈g::sl.ownBlock.toList,bv K b:=λb aa=>by
   rcases AY.1 aa with e | e
   ·subst e;exact V.blk (C.block _ V.1) C.size
   ·have:=(hs b Ay).2;exact this.blk (C.block _ this.1) C.size
  exact RM.push (l:=⟨c,bF p f,g,sl⟩) h G hx ak (hT.chg (.below C) (λh=>h) (λ_ _ h=>h)) hg (λb e=>(hs b e).1) ab (att_cells K c p f g sl) k2 k3 k4
set_option maxHeartbeats 2000000 in
theorem att_tail{J:World}{n U:Nat}{L:List Rl}{p:Nm}{f:Int}{a:Act}{Q:Exit->Act->World->Prop}(h:RM w t (.slice ad n U) L)(hN:n=L.length)(hn:L.length<=1000000)(hb:AW w.heap.size w J)
  (C:Kn 108 [(0,ptB t),(1,.string c),(2,.string p),(3,.int .i64 f)] a)(hP:∀c a a' w,a'.defers=a.defers->Q (.panic c) a w->Q (.panic c) a' w)
  (hQ:∀a' w' v' g sl,a'.tmps.getD 8 undef= .int .i64 0->a'.defers=[]->RPost w t (.slice ad n U) L w' v' (L++ [⟨c,bF p f,g,sl⟩])->Q .ret a' w'):∀P,restOf 22 AD 95=some P->P.wp AD Q a J:=by
 intro P hc
 conv at hc=>lhs;whnf
 injection hc with hc;subst hc;have ap:J.drew.cell? ⟨t,0,none⟩=some (.slice ad n U):=(h.below hb).cell;have ar:t<J.heap.size:=Bv (h.lt t (by simp[fpR])) hb.size;have an:=AE h;have am:=AE (k_rtNew J.drew);have HB:=AE hb;have Z:=AE (BA hN hn);have HQ:=AE hQ;clear h hb hN hn hQ;refine wp_seq_k (λK3 aa=> ?_);have ak:=AE aa;clear aa;refine yX Aa (λops Q' F hq=> ?_);have hp:∀c a a' w,a'.defers=a.defers->Q' (.panic c) a w->Q' (.panic c) a' w:=by subst hq;exact λc a a' w e h=>hP c a a' w e h
 have ac:∀a w,K3 a w->Q' .normal a w:=by subst hq;exact λa w h=>h
 have G:Region.noSelect ops=true:=by rw[F];kernel_rfl
 clear hP hq;refine el 5 (.string c) C (by rw[F];rfl) G (by rw[F];kernel_rfl) (by rw[F];kernel_rfl) rfl it hp rfl (λa w k=>jY k rfl rfl) (λa C=> ?_);refine el 6 (.string p) C (by rw[F];rfl) G (by rw[F];kernel_rfl) (by rw[F];kernel_rfl) rfl it hp rfl (λa w k=>jY k rfl rfl) (λa C=> ?_);refine el 7 (.int .i64 f) C (by rw[F];rfl) G (by rw[F];kernel_rfl) (by rw[F];kernel_rfl) rfl it hp rfl (λa w k=>jY k rfl rfl) (λa C=> ?_);refine el 0 (ptB t) C (by rw[F];rfl) G (by rw[F];kernel_rfl) (by rw[F];kernel_rfl) rfl it hp rfl (λa w k=>jY k rfl rfl) (λa C=> ?_);refine el 1 (ptB t) C (by rw[F];rfl) G (by rw[F];kernel_rfl) (by rw[F];kernel_rfl) rfl it hp rfl (λa w k=>jY k rfl rfl) (λa C=> ?_);refine el 2 (ptB t) C (by rw[F];rfl) G (by rw[F];kernel_rfl) (by rw[F];kernel_rfl) rfl it hp rfl (λa w k=>lG k rfl rfl) (λa C=> ?_);refine el 3 (ptB t) C (by rw[F];rfl) G (by rw[F];kernel_rfl) (by rw[F];kernel_rfl) rfl it hp rfl (λa w k=>by have e:=k.at' 96 _ rfl;go_simp) (λa C=> ?_);have HE:∀I (a:Act) H g sl,I=#[true,true,true,true,true,true,true,true,true,true,true,false,false,false,false]->J.drew.heap.size<=g->TrkS rkT H g sl []->(∀b,sl.ownBlock=some b->J.drew.heap.size<=b/\bv H b)->AW J.drew.heap.size J.drew H->
   Kn 108 [(94,ptB t),(98,.slice ad n U),(104,.slice (some ⟨H.heap.size,0,none⟩) 1 1)] a->wpAny AD .any ops Q' 4 I a (H.alloc (.cells (fI c p f g).toArray rlT)):=λI a H g sl hl h1 h2 h3 V C=>by
  subst hl;have Y:w.heap.size<=J.drew.heap.size:=HB.out.size;obtain⟨v',w5,k1,k2,k3,k4⟩:=att_push (c:=c) (p:=p) (f:=f) an.out Z.out.1 Z.out.2 (HB.out.drew.trans (V.mono Y)) (AG Y h1) h2 (λb e=>⟨AG Y (h3 b e).1,(h3 b e).2⟩);obtain⟨au,av,ev⟩:=k4.rm.form;refine gg 11 (by rw[F];kernel_rfl) (ij C (by rw[F];rfl) rfl it rfl (ol C rfl rfl rfl k1) (λa C=> ?_));refine el 12 (ptB t) C (by rw[F];rfl) G (by rw[F];kernel_rfl) (by rw[F];kernel_rfl) rfl it hp rfl (λa w k=>lG k rfl rfl) (λa C=> ?_);refine el 13 (ptB t) C (by rw[F];rfl) G (by rw[F];kernel_rfl) (by rw[F];kernel_rfl) rfl it hp rfl (λa w k=>by have e:=k.at' 106 _ rfl;go_simp) (λa C=> ?_);refine gg 14 (by rw[F];kernel_rfl) (wpOp_s (w':=w5.setCell ⟨t,0,none⟩ v') C (by rw[F];rfl) rfl rfl (kT C rfl rfl rfl (by rw[ev];go_simp)) (λa C=> ?_));refine wpAny_done (by rw[F];kernel_rfl) (ac _ _ (ak.out _ _ ?_)) _;refine wp_seq_k (λK4 ao=> ?_);refine bg ?_;refine wl (eV rfl) C rfl it (ju C rfl rfl) (λa C=> ?_);exact ao _ _ (Cs (HQ.out _ _ _ _ _ (C.getD rfl) C.df k4))
 have HN:∀(K:Act->World->Prop) l (a:Act),Kn 108 l a->(∀a' H g sl,Kn 108 ((102,ptB g)::l) a'->J.drew.heap.size<=g->TrkS rkT H g sl []->(∀b,sl.ownBlock=some b->J.drew.heap.size<=b/\bv H b)->AW J.drew.heap.size J.drew H->K a' H)->wpOp AD ops Q' 8 K a J.drew:=λK l a C h=>
  wi C (by rw[F];rfl) rfl rfl it (dN C rfl rfl rfl (af Tryz.func161 rfl rfl)) am.out (by
   rintro e H ⟨g,sl,rfl,h1,h2,h3,V⟩;exact⟨_,rfl,λa' aq=>h a' H g sl aq h1 h2 h3 V⟩)
 refine uv 4 8 (by rw[F];kernel_rfl) ?_ ?_
 ·refine ij (v:=.slice ad n U) C (by rw[F];rfl) rfl it rfl (uw C rfl rfl Ah) (λa C=> ?_);refine gg 8 (by rw[F];kernel_rfl) (HN _ _ _ C (λa H g sl C h1 h2 h3 V=> ?_));refine el 9 (.agg (fI c p f g).toArray) C (by rw[F];rfl) G (by rw[F];kernel_rfl) (by rw[F];kernel_rfl) rfl it hp rfl (λa w k=>by have e0:=k.at' 99 _ rfl;have e1:=k.at' 100 _ rfl;have e2:=k.at' 101 _ rfl;have e3:=k.at' 102 _ rfl;unfold fI ai;go_simp) (λa C=> ?_);refine gg 10 (by rw[F];kernel_rfl) (ij (v:=.slice (some ⟨H.heap.size,0,none⟩) 1 1) (w':=H.alloc (.cells (fI c p f g).toArray rlT)) C (by rw[F];rfl) rfl it rfl (lH C rfl rfl (wt rfl)) (λa C=> ?_));exact HE _ _ H g sl Aa h1 h2 h3 V (C.cut Ac)
 ·refine HN _ _ _ C (λa H g sl C h1 h2 h3 V=> ?_);have ab:H.cell? ⟨t,0,none⟩=some (.slice ad n U):=(Cb (V.block t ar)).trans ap;have ax:(H.alloc (.cells (fI c p f g).toArray rlT)).cell? ⟨t,0,none⟩=some (.slice ad n U):=(World.cell?_alloc_some H _ _ (by rw[ab];rfl)).trans ab;refine el 9 (.agg (fI c p f g).toArray) C (by rw[F];rfl) G (by rw[F];kernel_rfl) (by rw[F];kernel_rfl) rfl it hp rfl (λa w k=>by have e0:=k.at' 99 _ rfl;have e1:=k.at' 100 _ rfl;have e2:=k.at' 101 _ rfl;have e3:=k.at' 102 _ rfl;unfold fI ai;go_simp) (λa C=> ?_);refine uv 4 10 (by rw[F];kernel_rfl) ?_ ?_
  ·refine ij (v:=.slice ad n U) C (by rw[F];rfl) rfl it rfl (uw C rfl rfl Ah) (λa C=> ?_);refine gg 10 (by rw[F];kernel_rfl) (ij (v:=.slice (some ⟨H.heap.size,0,none⟩) 1 1) (w':=H.alloc (.cells (fI c p f g).toArray rlT)) C (by rw[F];rfl) rfl it rfl (lH C rfl rfl (wt rfl)) (λa C=> ?_));exact HE _ _ H g sl Aa h1 h2 h3 V (C.cut Ac)
  ·refine ij (v:=.slice (some ⟨H.heap.size,0,none⟩) 1 1) (w':=H.alloc (.cells (fI c p f g).toArray rlT)) C (by rw[F];rfl) rfl it rfl (lH C rfl rfl (wt rfl)) (λa C=> ?_);refine gg 4 (by rw[F];kernel_rfl) (ij (v:=.slice ad n U) C (by rw[F];rfl) rfl it rfl (uw C rfl rfl Ah) (λa C=> ?_));exact HE _ _ H g sl Aa h1 h2 h3 V (C.cut Ac)
end
section
open Classical
section
variable {w w':World} {v:Value} {ad:Option A0} {g n cp k:Nat}
end
end
section
open Go.RowKit Go.MapKept
open Classical
def eB(q:Nm×Lk):List Value:=[.string q.1,.string q.2.par,.int .i64 q.2.fr,.int .i64 q.2.un]
noncomputable def gH(R:Tr)(L:List Nm):List (Nm×Lk):=L.flatMap λc=>(lks R c).map λx=>(c,x)
abbrev iv(w:World)(v:Value)(l:List (Nm×Lk)):Prop:=a8 w 76 4 v l.length (l.flatMap eB)
theorem sJ{q:Nm×Lk}:∀u∈eB q,u.oneCell'=true/\noU u:=λu C=>by
 simp only[eB,AY,Dx,or_false]at C;rcases C with rfl | rfl | rfl | rfl<;>exact⟨rfl,λn e=>by cases e⟩
theorem lnk_app{l:List (Nm×Lk)}{g:Nat}{x:Nm×Lk}{ty:TypeId}(h:iv w v l)(hl:l.length<=2000)(C:∀j u,(eB x)[j]? =some u->w.cell? ((⟨g,0,none⟩:A0).add j)=some u)(hb:AW B w0 w)(G:B<=w.heap.size)(H:∀g,v.ownBlock=some g->B<=g):
  ∃v' w',(BT #[73,73] ty #[v,.slice (some ⟨g,0,none⟩) 1 1]).run AD w= .ok v' w'/\iv w' v' (l++ [x])/\AW B w0 w'/\∀g,v'.ownBlock=some g->B<=g:=by
 obtain⟨v',w',J,k2,k3,K⟩:=mE (p:=AD) (ty:=ty) (c:=1) (m:=1) (sz:=4) (bytes:=48) Tryz.underlying73 Aa h rfl C (λu F=>(sJ u F).1) (λu F=>(sJ u F).2) it no no;refine⟨v',w',J,?_,hb.grown k2 G (λk I=>H k I),λg C=>(k3 g C).elim (H g) (λh=>AG G h)⟩;show a8 w' _ 4 v' (l++ [x]).length _;rw[Bj,DF,show [x].flatMap eB=eB x by simp];exact K
theorem E_len(h:TM w t m E)(H:TSm (trE E)):E.length<=24:=by
 obtain⟨n,hn,l,h1,h2,rfl⟩:=H.cnt;rw[<-Cj (f:=(·.c))];refine AG (iP h.keys (λx I=> ?_)) hn;obtain⟨ch,C,rfl⟩:=Be.1 I;have G:=(h.rows ch C).ne;obtain⟨ln,F⟩:=F7 _ G;exact(h2 _).2 ⟨_,cG.2 ⟨ch,C,ln,F,rfl⟩,.inl rfl⟩
theorem oA{R:Tr}(C:TSm R):∀ {L:List Nm},(gH R L).length<=L.length*64
 | []=>A3 _
 | c::L=>by
  have h1:=C.per c;have h2:=oA C (L:=L);have e:gH R (c::L)=(lks R c).map (λx=>(c,x))++gH R L:=rfl;rw[e,Bj,Cj,Bh,Nat.add_mul];omega
theorem abi(R:Tr)(L:List Nm)(c:Nm):gH R (L++ [c])=gH R L++(lks R c).map λx=>(c,x):=by
 unfold gH;rw[DF];simp
theorem q_keysL(h:TM w t m E)(Y:TSm (trE E))(hn:∀x,aF (trE E) x->x.size<=maxLen):
  (AF AD 91 #[.map (some m)] w λe w'=>e= .returned (.func (.func 154) #[] #[.pointer (some ⟨w.heap.size,0,none⟩)])/\w'=w.alloc (.cells #[.map (some m)] mpT))/\
  AF AD 87 #[.func (.func 154) #[] #[.pointer (some ⟨w.heap.size,0,none⟩)]] (w.alloc (.cells #[.map (some m)] mpT)) λe w'=>∃v L,e= .returned v/\aU w' w.heap.size v L/\L.Perm (E.map (·.c))/\L.Nodup/\L.Pairwise aa9/\mBw w w':=by
 have Z:(1000000:Nat)<=maxLen:=by unfold maxLen;omega
 have J:=E_len h Y;obtain⟨D,I,hp,hz⟩:=dH.owns (P:=AD) (k:=9) h.mp Aa (by rw[Cj];omega) (λp hp=>by
  obtain⟨ch,C,rfl⟩:=Be.1 hp;obtain⟨ln,H⟩:=F7 _ (h.rows ch C).ne;exact hn _ ⟨_,cG.2 ⟨ch,C,ln,H,rfl⟩,.inl rfl⟩)
 rw[Cj]at I hz;refine⟨callsIn_wide.1 (Tryz.maps_Keys_L (some m) w),(callsIn_wide.1 (Tryz.slices_Sorted_keys_L m E.length D Re0 w I no no)).mono ?_⟩;rintro e w' ⟨v,ss,rfl,G,F,K,hb⟩;obtain⟨L,h1,h2,h3,U,V⟩:=pQ (dH.nodup h.mp) hp G;rw[CF]at h3;refine⟨v,L,rfl,?_,h3,U,V,((AH _ w).alloc (AI _) _).trans (hb.mono (by rw[asz];omega))⟩;show w'.ownsRow w.heap.size 9 1 v L.length (L.map Bc);rw[<-h1,h2];exact ownsRow_base_a F (by rw[asz];omega)
set_option maxHeartbeats 2000000 in
theorem q_Links(h:TM w t m E)(hE:Sane (trE E)):AF AD 35 #[ptB t] w λe w'=>∃v L,e= .returned v/\iv w' v (gH (trE E) L)/\L.Perm (E.map (·.c))/\L.Nodup/\L.Pairwise aa9/\(∀g,v.ownBlock=some g->w.heap.size<=g)/\mBw w w':=by
 obtain⟨a4,a5⟩:=q_keysL h hE.sm (λx hx=>hE.short hx);have a6:=a5.mono (show∀e w',_->∃ad n cap,∃L:List Nm,e= .returned (.slice ad n cap)/\Hid (aU w' w.heap.size (.slice ad n cap) L/\n=L.length/\L.Perm (E.map (·.c))/\L.Nodup/\L.Pairwise aa9/\mBw w w')from by
  rintro e w' ⟨v,L,rfl,h1,h2,h3,h4,Y⟩;obtain⟨ad,cap,rfl⟩:=cV h1;exact⟨ad,_,cap,L,rfl,AE ⟨h1,rfl,h2,h3,h4,Y⟩⟩)
 have h1:=h.cell;have H:=AE h;have HS:=AE hE;clear h hE a5;go_enter Tryz.func35,Tryz.ntmps35
 go_wp2_with (first
  | (go_at_call 91;refine a4.mono ?_;rintro e w2 ⟨rfl,rfl⟩)
  | (go_at_call 87;refine a6.mono ?_;rintro e w3 ⟨ad,n,cap,L,rfl,P⟩))
 clear a4 a6;have b8:n<=24:=by rw[P.out.2.1,P.out.2.2.1.length_eq,Cj];exact E_len H.out HS.out.sm
 go_loopw [3,17] (λs3 an wr=>∃(k:Nat),k<=n/\an= .int .i64 (k:Int)/\Hid (iv wr s3 (gH (trE E) (L.take k)))/\Hid (∀g,s3.ownBlock=some g->w3.heap.size<=g)/\Hid (mBw w3 wr)) (λ_ an _=>n - (intOf an).toNat)
 case atStart=>exact⟨0,A3 _,rfl,AE (by rw[List.take_zero];exact⟨Dz _ _ _ _,λg K=>by cases K⟩),AE (λg K=>by cases K),AE (AH _ _)⟩
 case round=>
  obtain⟨k,hk,rfl,J,V,F⟩:=hrel;rcases Bg k n with b1 | b0
  ·obtain⟨c,hc⟩:∃c,L[k]? =some c:=⟨_,AM (by rw[<-P.out.2.1];exact b1)⟩;obtain⟨g,K,a1⟩:=di (by have:=P.out.1;unfold aU at this;rw[<-P.out.2.1]at this;exact this) (show(L.map Bc)[k]? =some (.string c)by rw[Bp,hc];rfl);have a3:=(cf P.out.1 (g:=g) (by rw[K];rfl)).2;subst K;have bO:wr.cell? ⟨g,k,none⟩=some (.string c):=by rw[F.out.cell (p:=⟨g,k,none⟩) a3];exact a1
   have ac:=P.out.2.2.2.2.2;have Z:=(H.out.below ac).below F.out
   cases hch:chE E c with
   | none=>
    obtain⟨ch,h2,h3⟩:=Be.1 ((P.out.2.2.1.mem_iff).1 (A5 hc));exact absurd h3 (yN hch h2)
   | some ch=>
    have h4:=Z.cell;have Y:=Z.look c;have ab:=Z.chAt hch;have b2:(ch.ls.length:Int)<=9223372036854775807:=by have:=ab.le;have:=ab.cap;unfold maxLen at this;omega
    have au:(Instr.lookup mpT (.map (some m)) (.string c) false).run AD wr= .ok (.slice (some ⟨ch.rb,0,none⟩) ch.ls.length ch.cap) wr:=by rw[Y];unfold mw;rw[hch];rfl
    have ak:lks (trE E) c=ch.ls.map (·.x):=by rw[ji H.out.keys];unfold lsE;rw[hch];rfl
    have bi:=AE ak;have HC:=AE hc;have ap:=AE hch;have bp:=AE (show∀wq:World,mBw w3 wq->TM wq t m E from λwq k=>(H.out.below ac).below k);have av:=HS.out.sm.per c;rw[ak,Cj]at av;obtain⟨n2,am⟩:∃n2,n2=ch.ls.length:=⟨_,rfl⟩;rw[<-am]at au b2 av;have aq:=AE am;clear Y ab Z ak hc hch am ac a1 a3;go_wp2;go_loopw [3,28] (λs3 ao wq=>∃(j:Nat),j<=n2/\ao= .int .i64 (j:Int)/\Hid (iv wq s3 (gH (trE E) (L.take k)++(ch.ls.take j).map λl=>(c,l.x)))/\Hid (∀g,s3.ownBlock=some g->w3.heap.size<=g)/\Hid (mBw w3 wq)) (λ_ ao _=>n2 - (intOf ao).toNat)
    case atStart=>exact⟨0,A3 _,rfl,by rw[List.take_zero,List.map_nil,CO];exact J,V,F⟩
    case round=>
     clear J V F h4 au bO;obtain⟨j,hj,rfl,J,V,F⟩:=hrel;rcases Bg j n2 with a7 | b0
     ·obtain⟨ln,U⟩:∃ln,ch.ls[j]? =some ln:=⟨_,AM (by rw[<-aq.out];exact a7)⟩;have Z:=bp.out wr F.out;have b9:=(Z.chAt ap.out).cell U;have I:=Z.ln ap.out (A5 U);have a9:wr.rangeAt ln.b 0 (eB (c,ln.x)):=λi v C=>by
       rw[A7]
       match i,C with
       | 0,C=>injection C with C;subst C;exact I.cellv rfl
       | 1,C=>injection C with C;subst C;exact I.par
       | 2,C=>injection C with C;subst C;exact I.fr
       | 3,C=>injection C with C;subst C;exact I.un
       | i+4,C=>simp[eB]at C
      have a2:∀(i:Nat)(u:Value),(eB (c,ln.x))[i]? =some u->(wr.alloc (.cells (eB (c,ln.x)).toArray 76)).cell? ((⟨wr.heap.size,0,none⟩:A0).add i)=some u:=λi u hu=>by
       rw[bQ,A7,aH (Bs wr _)];simpa using hu
      have G:(gH (trE E) (L.take k)++(ch.ls.take j).map λl=>(c,l.x)).length<=2000:=by
       have h1:=oA HS.out.sm (L:=L.take k);rw[A9]at h1;rw[Bj,Cj,A9];omega
      obtain⟨v5,w5,aa,a0,ax,ay⟩:=lnk_app (ty:=73) (x:=(c,ln.x)) (J.out.keep (w':=wr.alloc (.cells (eB (c,ln.x)).toArray 76)) (λg K=>EZ wr _ (cf J.out.1 K).2)) G a2 (F.out.alloc F.out.size _) (by rw[asz];have:=F.out.size;omega) V.out;have bz:=AE (show iv w5 v5 (gH (trE E) (L.take k)++(ch.ls.take (j+1)).map λl=>(c,l.x))by
       rw[EX,U,Cl,<-List.append_assoc];exact a0)
      have bb:=AE ax;have bq:=AE ay;have ar:=AE aa;have bt:=AE a9;clear a0 ax ay a2 aa G a9 I Z U J V F;generalize ln.b=lb at *;generalize ln.x=x at *;go_upto_region 10 with(fail)
      refine Bn ?_;refine ae rfl (v:=u3) (w':=wr) Af ?_;refine ae rfl (v:=ptB lb) (w':=wr) Af ?_;refine ae rfl (v:=ptB lb) (w':=wr) Ah ?_;refine ae rfl (v:=ptB lb) (w':=wr) Ah ?_;refine Du rfl _ _ rfl lb 0 rfl (eB (c,x)) _ bt.out Tryz.underlying76 rfl Aa ?_;refine ae rfl (v:=.slice (some ⟨wr.heap.size,0,none⟩) 1 1) (w':=wr.alloc (.cells (eB (c,x)).toArray 76)) (by unfold eB;go_simp) ?_;refine jk rfl rfl rfl rfl ar.out ?_;go_wp2;go_roundw
      case rel=>exact⟨j+1,no,by go_num,bz,bq,bb⟩
      case measure=>simp[intOf];omega
     ·obtain rfl:j=n2:=no
      have be:=AE (show iv wr u3 (gH (trE E) (L.take (k+1)))by
       have h1:=J.out;rw[EX,HC.out,Option.toList_some,abi,bi.out];rw[aq.out,Fj]at h1;rw[CF];exact h1)
      clear J;go_wp2;go_roundw
      case rel=>exact⟨k+1,no,by go_num,be,V,F⟩
      case measure=>simp[intOf];omega
  ·obtain rfl:k=n:=no
   have HQ:=AE (show∃v L',BF u3= .returned v/\iv wr v (gH (trE E) L')/\L'.Perm (E.map (·.c))/\L'.Nodup/\L'.Pairwise aa9/\(∀g,v.ownBlock=some g->w.heap.size<=g)/\mBw w wr from by
    obtain⟨_,h1,h2,h3,h4,Y⟩:=P.out;have h6:=J.out;rw[h1,Fj]at h6;exact⟨u3,L,rfl,h6,h2,h3,h4,λg K=>AG Y.size (V.out g K),Y.trans (F.out.mono Y.size)⟩)
   clear F J V;go_wp2;go_ret;exact HQ.out
end
section
open Classical
theorem flat4:∀ {l:List (Nm×Lk)} {i j:Nat} {q:Nm×Lk},l[i]? =some q->j<4->(l.flatMap eB)[i*4+j]? =(eB q)[j]?
 | [],i,j,q,h,_=>by cases h
 | p::l,0,j,q,h,hj=>by
  simp only[List.getElem?_cons_zero,A4.injEq]at h;subst h;rw[Cx,BB (by show 0*4+j<4;omega),Nat.zero_mul,A7]
 | p::l,i+1,j,q,h,hj=>by
  rw[Cx,Bw (by show 4<=(i+1)*4+j;omega)];have e:(i+1)*4+j - (eB p).length=i*4+j:=by show(i+1)*4+j - 4=_;omega
  rw[e];exact flat4 Au hj
end
section
open Classical
theorem acI{α:Type}{x:α}:∀ {P C S S':List α},P++x::S=C++x::S'->(P++x::S).Nodup->P=C/\S=S'
 | [],[],S,S',h,_=>⟨rfl,Au⟩
 | [],p::C,S,S',h,hd=>by
  simp only[Db,DA,List.cons.injEq]at h hd;obtain⟨rfl,rfl⟩:=h;exact absurd (AJ.2 (.inr (Bo ..))) (Bz.1 hd).1
 | p::P,[],S,S',h,hd=>by
  simp only[Db,DA,List.cons.injEq]at h hd;obtain⟨rfl,rfl⟩:=h;exact absurd (AJ.2 (.inr (Bo ..))) (Bz.1 hd).1
 | p::P,p'::C,S,S',h,hd=>by
  simp only[DA,List.cons.injEq]at h hd;obtain⟨rfl,h⟩:=h;obtain⟨F,G⟩:=acI h (Bz.1 hd).2;exact⟨by rw[F],G⟩
section
variable {R Q R' Q' A B A' B':Tr} {c p:Nm} {x x':Lk} {k k':Nat} {a f u e e':Int}
theorem TOk.nodup(h:TOk R)(c:Nm):(lks R c).Nodup:=by
 refine List.Pairwise.imp_of_mem (λ{x y} C hy k e=> ?_) (h.row c);subst e;have:=h.tm _ (bV.1 C);simp only at this;omega
theorem wu(h:REq (A++(c,x)::B) (A'++(c,x)::B'))(G:TOk (A++(c,x)::B)):REq (A++(c,x')::B) (A'++(c,x')::B'):=λy=>by
 have hy:=h y;have hn:=G.nodup y;rw[dh,dh]at hy⊢;rw[dh]at hn;by_cases e:y=c
 ·rw[if_pos e,if_pos e]at hy⊢;rw[if_pos e]at hn;obtain⟨C,F⟩:=acI hy hn;rw[C,F]
 ·rw[if_neg e,if_neg e]at hy⊢;exact hy
theorem eT.of(h:x.un= -1):eT (A++(c,x)::B) c A.length x:=⟨Ad,h⟩
theorem pR(F:TOk R)(C:TOk Q)(h:REq R Q)(a:eT R c k x)(b:eT Q c k' x'):x=x':=by
 have h1:=a.last (F.row c);have h2:=b.last (C.row c);rw[h c,h2]at h1;injection h1 with h1;exact h1.symm
theorem kW(h:REq R Q)(a:sd R c)(b:eT Q c k x):False:=by
 have h1:(c,x)∈R:=(h.mem _).2 (A5 b.1);obtain⟨i,hi,e⟩:=BL h1;exact a i (c,x) AB ⟨rfl,b.2⟩
theorem DetS.uniq(C:TOk R)(G:TOk Q)(h:REq R Q)(d:DetS R c u R' e)(F:DetS Q c u Q' e'):e=e'/\REq R' Q':=by
 cases d with
 | none h1=>cases F with
  | none _=>exact⟨rfl,h⟩
  | time k1 _=>exact(kW h h1 k1).elim
  | ok e1 k1 _ _=>subst e1;exact(kW h h1 (eT.of k1)).elim
 | time h1 h2=>cases F with
  | none k1=>exact(kW h.symm k1 h1).elim
  | time _ _=>exact⟨rfl,h⟩
  | ok e1 k1 k2 k3=>subst e1;obtain rfl:=pR C G h h1 (eT.of k1);omega
 | ok e1 h1 h2 h3=>subst e1;cases F with
  | none k1=>exact(kW h.symm k1 (eT.of h1)).elim
  | time k1 k2=>obtain rfl:=pR C G h (eT.of h1) k1;omega
  | ok e1 k1 k2 k3=>subst e1;obtain rfl:=pR C G h (eT.of h1) (eT.of k1);exact⟨rfl,wu h C⟩
theorem SetS.uniq{add:List St->List St×Int}(F:TOk R)(h:REq R Q)(d:SetS add R c a R' e)(C:SetS add Q c a Q' e'):e=e'/\REq R' Q':=by
 have ht:=h.tAt c a
 cases d with
 | none h1=>cases C with
  | none _=>exact⟨rfl,h⟩
  | still k1 _=>rw[h1,k1]at ht;cases ht
  | ok e1 k1 _=>rw[h1,k1]at ht;cases ht
 | still h1 h2=>cases C with
  | none k1=>rw[h1,k1]at ht;cases ht
  | still _ _=>exact⟨rfl,h⟩
  | ok e1 k1 k2=>rw[h1,k1]at ht;injection ht with ht;subst ht;rw[h2]at k2;cases k2
 | ok e1 h1 h2=>cases C with
  | none k1=>rw[h1,k1]at ht;cases ht
  | still k1 k2=>rw[h1,k1]at ht;injection ht with ht;subst ht;rw[h2]at k2;cases k2
  | ok e2 k1 k2=>rw[h1,k1]at ht;injection ht with ht;subst ht;subst e1;subst e2;exact⟨rfl,wu h F⟩
theorem FixS.uniq{ok:Bool}{q:Pq}(C:TOk R)(F:TOk Q)(h:REq R Q)(d:FixS ok q R c R' e)(G:FixS ok q Q c Q' e'):e=e'/\REq R' Q':=by
 cases d with
 | none h1=>cases G with
  | none _=>exact⟨rfl,h⟩
  | state k1 _=>exact(kW h h1 k1).elim
  | range k1 _ _ _=>exact(kW h h1 k1).elim
  | ok e1 k1 _ _ _=>subst e1;exact(kW h h1 (eT.of k1)).elim
 | state h1 h2=>cases G with
  | none k1=>exact(kW h.symm k1 h1).elim
  | state _ _=>exact⟨rfl,h⟩
  | range k1 k2 k3 _=>obtain rfl:=pR C F h h1 k1;rw[k2,k3]at h2;simp at h2
  | ok e1 k1 k2 k3 _=>subst e1;obtain rfl:=pR C F h h1 (eT.of k1);rw[k2,k3]at h2;simp at h2
 | range h1 h2 h3 h4=>cases G with
  | none k1=>exact(kW h.symm k1 h1).elim
  | state k1 k2=>obtain rfl:=pR C F h h1 k1;rw[h2,h3]at k2;simp at k2
  | range _ _ _ _=>exact⟨rfl,h⟩
  | ok e1 k1 k2 k3 k4=>rw[h4]at k4;cases k4
 | ok e1 h1 h2 h3 h4=>subst e1;cases G with
  | none k1=>exact(kW h.symm k1 (eT.of h1)).elim
  | state k1 k2=>obtain rfl:=pR C F h (eT.of h1) k1;rw[h2,h3]at k2;simp at k2
  | range _ _ _ k4=>rw[h4]at k4;cases k4
  | ok e1 k1 _ _ _=>subst e1;obtain rfl:=pR C F h (eT.of h1) (eT.of k1);exact⟨rfl,wu h C⟩
def wv(R:Tr)(c:Nm)(f:Int):Prop:=f<0\/dX<f\/∃x∈lks R c,x.un= -1\/f<x.un
def y8(R:Tr)(c p:Nm):Prop:=∃n,ck (λx=>aF R x\/x=c\/x=p) n/\(24<n\/64<=(lks R c).length)
variable{isN:Nm->Prop}
theorem AttS.cls(h:AttS isN R c p f R' e):(e=5/\R'=R/\¬(isN c/\isN p))\/(e=17/\R'=R/\(isN c/\isN p)/\wv R c f)\/(e=15/\R'=R/\(isN c/\isN p)/\¬wv R c f/\y8 R c p)\/
  (e=19/\R'=R/\(isN c/\isN p)/\¬wv R c f/\¬y8 R c p/\Cyc R c p f)\/(e=0/\R'=jA R c p f/\(isN c/\isN p)/\¬wv R c f/\¬y8 R c p/\¬Cyc R c p f):=by
 have F:0<=f->f<=dX->sd R c->(∀x∈lks R c,x.un<=f)->¬wv R c f:=λh0 h1 h2 h3 ht=>by
  rcases ht with ht | ht | ⟨x,C,ht | ht⟩
  ·omega
  ·omega
  ·obtain⟨i,hi,e⟩:=BL (bV.1 C);exact h2 i (c,x) AB ⟨rfl,ht⟩
  ·have:=h3 x C;omega
 have G:∀n,ck (λx=>aF R x\/x=c\/x=p) n->n<=24/\(lks R c).length<64->¬y8 R c p:=λn hn hf ⟨m,H,I⟩=>by
  have:=ck.uniq hn H;omega
 cases h with
 | name h=>exact .inl ⟨rfl,rfl,h⟩
 | time h ht=>
  refine .inr (.inl ⟨rfl,rfl,h,?_⟩);rcases ht with ht | ht | ⟨k,x,ht⟩ | ⟨x,C,ht⟩
  ·exact .inl ht
  ·exact .inr (.inl ht)
  ·exact .inr (.inr ⟨x,bV.2 (A5 ht.1),.inl ht.2⟩)
  ·exact .inr (.inr ⟨x,C,.inr ht⟩)
 | full h h0 h1 h2 h3 n hn hf=>exact .inr (.inr (.inl ⟨rfl,rfl,h,F h0 h1 h2 h3,n,hn,hf⟩))
 | cycle h h0 h1 h2 h3 n hn hf hc=>exact .inr (.inr (.inr (.inl ⟨rfl,rfl,h,F h0 h1 h2 h3,G n hn hf,hc⟩)))
 | ok h h0 h1 h2 h3 n hn hf hc=>exact .inr (.inr (.inr (.inr ⟨rfl,rfl,h,F h0 h1 h2 h3,G n hn hf,hc⟩)))
theorem AttS.uniq(h:REq R Q)(d:AttS isN R c p f R' e)(V:AttS isN Q c p f Q' e'):e=e'/\REq R' Q':=by
 have hT:wv R c f↔wv Q c f:=by unfold wv;rw[h c]
 have hF:y8 R c p↔y8 Q c p:=by unfold y8;rw[h c];simp only[h.known]
 have Z:Cyc R c p f↔Cyc Q c p f:=h.cyc;have ha:REq (jA R c p f) (jA Q c p f):=λy=>by rw[kA,kA,h y]
 have P:=d.cls;have Y:=V.cls;rw[hT,hF,Z]at P;generalize wv Q c f=T at *;generalize y8 Q c p=F at *;generalize Cyc Q c p f=C at *;generalize (isN c/\isN p)=N at *;rcases P with⟨rfl,rfl,G⟩ | ⟨rfl,rfl,G,I⟩ | ⟨rfl,rfl,G,I,K⟩ | ⟨rfl,rfl,G,I,K,U⟩ | ⟨rfl,rfl,G,I,K,U⟩<;>
 rcases Y with⟨rfl,rfl,H⟩ | ⟨rfl,rfl,H,J⟩ | ⟨rfl,rfl,H,J,b3⟩ | ⟨rfl,rfl,H,J,b3,b4⟩ | ⟨rfl,rfl,H,J,b3,b4⟩<;>
 first
  | exact⟨rfl,h⟩
  | exact⟨rfl,ha⟩
  | (exfalso;contradiction)
theorem DoS.uniq{s:Ax}(F:TOk R)(G:TOk Q)(h:REq R Q)(d:DoS R s R' e)(C:DoS Q s Q' e'):e=e'/\REq R' Q':=by
 unfold DoS at d C;split at d
 ·rename_i h1;rw[if_pos h1]at C;exact d.uniq F G h C
 ·rename_i h1;rw[if_neg h1]at C;split at d
  ·rename_i h2;rw[if_pos h2]at C;exact d.uniq F h C
  ·rename_i h2;rw[if_neg h2]at C;split at d
   ·rename_i h3;rw[if_pos h3]at C;exact d.uniq F G h C
   ·rename_i h3;rw[if_neg h3]at C;exact d.uniq h C
end
end
section
open Classical
theorem DoS.len{R R':Tr}{s:Ax}{e:Int}(d:DoS R s R' e):R'.length<=R.length+1:=by
 unfold DoS at d;split at d
 ·cases d with
  | ok e _ _ _=>subst e;simp
  | _=>exact DW _
 ·split at d
  ·cases d with
   | ok e _ _=>subst e;simp
   | _=>exact DW _
  ·split at d
   ·cases d with
    | ok e _ _ _ _=>subst e;simp
    | _=>exact DW _
   ·cases d with
    | ok _ _ _ _ _ _ _ _ _=>unfold jA;simp
    | _=>exact DW _
theorem edge_req{R Q:Tr}(h:REq R Q)(c:Nm)(a:Int):bC R c a=bC Q c a:=by unfold bC;rw[h.tAt]
end
section
open Classical
theorem q_Index{L:List Nm}{b:Nat}(h:aU w b v L)(Y:L.length<=1000000)(c:Nm):AF AD 222 #[v,.string c] w λe w'=>∃i:Int,e= .returned (.int .i64 i)/\(0<=i↔c∈L)/\w'=w:=by
 obtain⟨ad,cap,rfl⟩:=cV h;obtain⟨n,hn⟩:∃n,n=L.length:=⟨_,rfl⟩;have H:=AE (show w.ownsRow b 9 1 (.slice ad L.length cap) L.length (L.map Bc)from h);rw[<-hn]at H Y⊢;have U:=AE hn;have hm:(n:Int)<=1000000:=no
 clear h Y hn;go_enter Tryz.func222,Tryz.ntmps222
 go_wp2;go_loopw [8] (λP wr=>∃k:Nat,k<=n/\P= .int .i64 (k:Int)/\wr=w/\Hid (∀j y,j<k->L[j]? =some y->y≠c)) (λP _=>n - (intOf P).toNat)
 case atStart=>exact⟨0,A3 _,rfl,rfl,AE (λj y C=>absurd C (Dd j))⟩
 case round=>
  obtain⟨k,hk,rfl,rfl,G⟩:=hrel;rcases Bg k n with J | Z
  ·obtain⟨x,K⟩:∃x,L[k]? =some x:=⟨_,AM (by rw[<-U.out];exact J)⟩;obtain⟨g,rfl,hc⟩:=di H.out (show(L.map Bc)[k]? =some (.string x)by rw[Bp,K];rfl);have V:=AE K;clear K;by_cases e:c=x
   ·subst e;have F:=AE (show∃i:Int,BF (.int .i64 (k:Int))= .returned (.int .i64 i)/\(0<=i↔c∈L)from⟨k,rfl,⟨λ_=>A5 V.out,λ_=>no⟩⟩);go_wp2;go_ret;obtain⟨i,h1,h2⟩:=F.out;exact⟨i,h1,h2,rfl⟩
   ·have aa:=gW e;have I:=AE (show∀j y,j<k+1->L[j]? =some y->y≠c from λj y C hy=>by
     rcases Bg j k with h | h
     ·exact G.out j y h hy
     ·obtain rfl:j=k:=no
      rw[V.out]at hy;injection hy with hy;subst hy;exact λh=>e h.symm)
    clear e;go_wp2;go_roundw
    case rel=>exact⟨k+1,no,by go_num,by trivial,I⟩
    case measure=>simp[intOf];omega
  ·obtain rfl:k=n:=no
   have F:=AE (show∃i:Int,BF (.int .i64 (-1))= .returned (.int .i64 i)/\(0<=i↔c∈L)from⟨-1,rfl,⟨λh=>no,λh=>by
    obtain⟨j,C,e⟩:=BL h;exact absurd e (G.out j _ (by rw[U.out];exact C) (AM C))⟩⟩)
   clear G H;go_wp2;go_ret;obtain⟨i,h1,h2⟩:=F.out;exact⟨i,h1,h2,rfl⟩
theorem sK{L:List Nm}{b:Nat}(h:aU w b v L)(G:L.length<=1000000)(c:Nm):AF AD 172 #[v,.string c] w λe w'=>e= .returned (.bool (decide (c∈L)))/\w'=w:=by
 have hi:=q_Index h G c;obtain⟨q,F⟩:∃q,q=decide (c∈L):=⟨_,rfl⟩;have I:=AE F;rw[<-F];clear h G F;go_enter Tryz.func172,Tryz.ntmps172
 go_wp2_with (go_at_call 222;refine hi.mono ?_;rintro e J ⟨i,rfl,C,rfl⟩;have H:=AE C;clear C)
 go_ret;refine⟨?_,rfl⟩;have e:decide (0<=i)=q:=by rw[I.out];exact decide_eq_decide.2 H.out
 rw[<-e];rfl
theorem mI(h:TM w t m E)(F:Sane (trE E))(c:Nm):AF AD 108 #[ptB t,.string c] w λe w'=>e= .returned (.bool (decide (aF (trE E) c)))/\mBw w w':=by
 have C:=(q_Frames h F.sm (λx U=>F.short U)).mono (show∀e w',_->∃v,e= .returned v/\Hid (mBw w w')/\AF AD 172 #[v,.string c] w' λe I=>e= .returned (.bool (decide (aF (trE E) c)))/\I=w' from by
  rintro e w' ⟨v,L,rfl,h1,h2,_,_,_,h3,P⟩;refine⟨v,rfl,AE P,?_⟩;rw[show decide (aF (trE E) c)=decide (c∈L)from decide_eq_decide.2 (h2 c).symm];exact sK h1 no c)
 obtain⟨q,J⟩:∃q,q=decide (aF (trE E) c):=⟨_,rfl⟩;rw[<-J]at C⊢;clear h F J;go_enter Tryz.func108,Tryz.ntmps108
 go_wp2_with (first
  | (go_at_call 33;refine C.mono ?_;rintro e V ⟨v,rfl,K,G⟩)
  | (go_at_call 172;refine G.mono ?_;rintro e w' ⟨rfl,H⟩;obtain rfl:=H.symm))
 go_ret;exact⟨rfl,K.out⟩
inductive Anc(R:Tr)(a:Int):Nm->List Nm->Prop
 | root {x:Nm} (h:par R a x=none):Anc R a x [x]
 | step {x y:Nm} {l:List Nm} (h:par R a x=some y) (t:Anc R a y l):Anc R a x (x::l)
variable{R:Tr}{x:Nm}
theorem Anc.of(h:iO R a x):∃l,Anc R a x l:=by
 induction h with
 | intro x _ C=>
  cases hp:par R a x with
  | none=>exact⟨_,.root hp⟩
  | some y=>
   obtain⟨l,hl⟩:=C y hp;exact⟨_,.step hp hl⟩
variable{l:List Nm}
theorem Anc.uniq{l':List Nm}(h:Anc R a x l)(k:Anc R a x l'):l=l':=by
 induction h generalizing l' with
 | root hp=>
  cases k with
  | root=>rfl
  | step hp' _=>rw[hp]at hp';cases hp'
 | step hp _ ih=>
  cases k with
  | root hp'=>rw[hp]at hp';cases hp'
  | step hp' t=>rw[hp]at hp';injection hp' with e;subst e;rw[ih t]
theorem Anc.head(h:Anc R a x l):∃t,l=x::t:=by cases h<;>exact⟨_,rfl⟩
theorem Anc.up:∀ {n:Nat} {x y:Nm} {l:List Nm},Anc R a x l->up R a n x=some y->par R a y=none->l.length=n+1
 | 0,x,y,l,h,hu,hy=>by
  simp only[Go.Proofs.YtggfmklppkioeaaGreat.up,A4.injEq]at hu;subst hu
  cases h with
  | root=>rfl
  | step hp _=>rw[hy]at hp;cases hp
 | n+1,x,y,l,h,hu,hy=>by
  cases h with
  | root hp=>simp only[Go.Proofs.YtggfmklppkioeaaGreat.up,hp,Option.bind_none]at hu;cases hu
  | step hp t=>simp only[Go.Proofs.YtggfmklppkioeaaGreat.up,hp,Option.bind_some]at hu;rw[Bh,Anc.up t hu hy]
theorem Anc.short(C:Sane R)(F:aF R x)(h:Anc R a x l):l.length<=24:=by
 obtain⟨n,y,h1,h2,h3⟩:=short_way (a:=a) C.ok C.sm F;have:=h.up h2 h3;omega
end
section
open Go.RowKit Go.Shelf
open Classical
attribute [local go_sem] Oper.semAt_some
structure Kb(n O:Nat)(A B:World):Prop where
 os:B.os=A.os
 tape:B.tape=A.tape
 output:B.output=A.output
 size:A.heap.size<=B.heap.size
 block:∀k,k<n->k≠O->B.heap[k]? =A.heap[k]?
theorem Kb.refl(n O:Nat)(A:World):Kb n O A A:=⟨rfl,rfl,rfl,AI _,λ_ _ _=>rfl⟩
variable{n O:Nat}{A B:World}
theorem Kb.trans{C:World}(h:Kb n O A B)(k:Kb n O B C):Kb n O A C:=⟨k.os.trans h.os,k.tape.trans h.tape,k.output.trans h.output,AG h.size k.size,λi h1 h2=>(k.block i h1 h2).trans (h.block i h1 h2)⟩
theorem Kb.below(h:AW n A B):Kb n O A B:=⟨h.os,h.tape,h.output,h.size,λk C _=>h.block k C⟩
theorem Kb.grown{C:World}(h:Kb n O A B){row:Option Nat}(g:B.grownBy C row)(hn:n<=B.heap.size)(hr:∀k,row=some k->n<=k\/k=O):Kb n O A C:=
 ⟨g.os.trans h.os,g.tape.trans h.tape,g.output.trans h.output,AG h.size g.size,λk G F=>(g.block k no (λe=>by rcases hr k e.symm with h1 | h1;omega;exact F h1)).trans (h.block k G F)⟩
theorem Kb.cell(h:Kb n O A B){b j:Nat}(hb:b<n)(C:b≠O):B.cell? ⟨b,j,none⟩=A.cell? ⟨b,j,none⟩:=Cb (h.block b hb C)
theorem Kb.tm(h:Kb w.heap.size O w W)(G:TM w t m E)(F:O∉fpT t m E)(o:bv w O):TM W t m E:=
 G.chg (X:=(· =O)) ⟨h.size,λg C hn=>h.block g C hn,λg C=>by have e:g=O:=C;subst e;exact o⟩ (λg C e=>F (e▸C))
theorem kb_own{β:Type}(n O:Nat)(w:World)(hn:n<=w.heap.size):OwnFrom n (λ(_:β) W=>Kb n O w W):=λ_ _ _ _ hs C F=>hs.grown C (AG hn hs.size) (λk e=>.inl (F k e).1)
theorem kb_b(hn:n<=w.heap.size)(W:World)(l:Nat)(o o':Obj)(hl:w.heap.size<=l)(h:W.heap[l]? =some o)(_:o.isCells=false)(_:o.isWalk=false):Kb n O W (W.putObj l o'):=
 (Kb.refl n O W).grown (grownBy_putObj' W l o') (by have:=(A2.1 h).1;omega) (λk e=>by cases e;exact .inl no)
theorem abj(w:World)(t:Nat)(x:Nm)(a:Int):AF AD 171 #[ptB t,.string x,.int .i64 a] w λe w'=>∃B,e= .returned (.func (.func 221) #[] #[.pointer (some ⟨B+1,0,none⟩),.pointer (some ⟨B,0,none⟩),.pointer (some ⟨B+2,0,none⟩)])/\B=w.heap.size/\
  w'=((w.alloc (.cells #[ptB t] 24)).alloc (.cells #[.string x] 9)).alloc (.cells #[.int .i64 a] 3):=by
 go_enter Tryz.func171,Tryz.ntmps171
 go_wp2;go_ret;exact⟨_,rfl,rfl,rfl⟩
set_option maxHeartbeats 1000000 in
theorem anc_stops(n:Nat)(hn:1<=n){x:Nm}{ys:List Nm}{B1 B2 B3:Nat}(hT:TM w t m E)(hO:O∉fpT t m E)(hX:bv w O)(U:B1<w.heap.size/\B1≠O)(V:B2<w.heap.size/\B2≠O)(Y:B3<w.heap.size/\B3≠O)
  (c1:w.cell? ⟨B1,0,none⟩=some (.string x))(c2:w.cell? ⟨B2,0,none⟩=some (ptB t))(c3:w.cell? ⟨B3,0,none⟩=some (.int .i64 a))(hA:Anc (trE E) a x ys):
  SeqStopsK Ce n AD 221 #[.pointer (some ⟨B1,0,none⟩),.pointer (some ⟨B2,0,none⟩),.pointer (some ⟨B3,0,none⟩)] (λz:Nm=> #[Bc z]) (Kb w.heap.size O) (λzs=>zs=ys) (λpre=>pre <+:ys) ys.length w:=λl J Jx W hW hJ am hY h0=>by
 have Z:Kb w.heap.size O w W:=Kb.below hW;have a0:W.cell? ⟨B1,0,none⟩=some (.string x):=by rw[Z.cell U.1 U.2];exact c1
 have au:=AE (show∀wq,Kb w.heap.size O w wq->wq.cell? ⟨B2,0,none⟩=some (ptB t)from λwq k=>by rw[k.cell V.1 V.2];exact c2);have av:=AE (show∀wq,Kb w.heap.size O w wq->wq.cell? ⟨B3,0,none⟩=some (.int .i64 a)from λwq k=>by rw[k.cell Y.1 Y.2];exact c3);have HT:=AE (show∀wq,Kb w.heap.size O w wq->TM wq t m E from λwq k=>k.tm hT hO hX);have ax:=AE Z;have HA:=AE hA;have H0:=AE h0;have HJ:=AE (BA hJ am);have HY:=AE hY;clear hT hO hX U V Y c1 c2 c3 Z hW hA h0 hJ am hY;refine callsIn_of_wp Tryz.func221 rfl trivial ?_ rfl;simp only[Tryz.ntmps221,BW,Bh,Dc,Nat.reduceAdd,Nat.reduceSub,Array.replicate_succ,Array.replicate_zero,List.push_toArray,List.append_toArray,Db,DA]
 gi_wp2
 gi_loopg [5,6] ys.length (λk s5 s6 wr=>∃(pre F:List Nm)(f:Nm),s5= .string f/\Hid (ys=pre++F)/\Hid (Kb w.heap.size O w wr)/\Hid (J pre wr)/\((Hid (F=[]/\k=0)/\s6= .bool false)\/(Hid (Anc (trE E) a f F/\k=F.length)/\s6= .bool true)))
 case atStart=>exact⟨[],ys,x,rfl,AE rfl,ax,H0,.inr ⟨AE ⟨HA.out,rfl⟩,rfl⟩⟩
 case round=>
  obtain⟨pre,F,f,rfl,H,ap,hj,⟨hr,rfl⟩ | ⟨hr,rfl⟩⟩:=hrel
  ·have hq:=AE (show(∃v,BF (.tuple #[])= .returned v)/\((∃zs,zs=ys/\J zs wr)\/(∃pre,pre <+:ys/\Jx pre wr))from⟨⟨_,rfl⟩,.inl ⟨pre,by rw[H.out,hr.out.1,CO],hj.out⟩⟩)
   gi_wp2
   refine⟨λ_ h=>(by cases h),?_⟩
   gi_wp2
   go_end0
   exact⟨⟨_,rfl⟩,hq.out.2⟩
  ·obtain⟨P,G⟩:=hr.out.1.head;have aq:pre.length<ys.length:=by rw[H.out,G];simp
   obtain⟨fn,tmps,ar,ay,hy,hR⟩:=HY.out pre f wr hj.out aq
   gi_wp2
   refine hR.mono ?_;rintro e W3 (⟨rfl,ak,ao⟩ | ⟨rfl,an⟩)
   ·have C:=ap.out.trans ao;have c2:=au.out W3 C;have c3:=av.out W3 C;have I:=q_ParentG (HT.out W3 C) f a;have K:=AE C;have ab:=AE ak;have ac:=AE (show ys=(pre++ [f])++P by rw[H.out,G];simp);have HR:=AE (show(par (trE E) a f=none/\P=[])\/∃y,par (trE E) a f=some y/\Anc (trE E) a y P from by
     have h1:=hr.out.1;rw[G]at h1
     cases h1 with
     | root h=>exact .inl ⟨h,rfl⟩
     | step h k=>exact .inr ⟨_,h,k⟩)
    have HG:=AE (show gk=P.length+1 by rw[hr.out.2,G];rfl);clear hy hR ao ap C ak H G aq hr hj;rcases HR.out with⟨hp,hn⟩ | ⟨y,hp,hn⟩
    ·rw[show pOf (trE E) a f=BZ by unfold pOf;rw[hp];rfl,hp]at I;have HN:=AE hn;clear hp hn
     gi_wp2_with (refine⟨trivial,?_⟩;gi_at_call 34;refine(callsIn_wide.2 I).mono ?_;rintro e w' ⟨rfl,aa⟩;obtain rfl:=aa.symm)
     go_roundg 0
     case measure=>have:=HG.out;omega
     case rel=>exact⟨pre++ [f],P,_,rfl,ac,K,ab,.inl ⟨AE ⟨HN.out,rfl⟩,rfl⟩⟩
    ·rw[show pOf (trE E) a f=y by unfold pOf;rw[hp];rfl,hp]at I;have HN:=AE hn;clear hp hn
     gi_wp2_with (refine⟨trivial,?_⟩;gi_at_call 34;refine(callsIn_wide.2 I).mono ?_;rintro e w' ⟨rfl,aa⟩;obtain rfl:=aa.symm)
     go_roundg P.length
     case measure=>have:=HG.out;omega
     case rel=>exact⟨pre++ [f],P,y,rfl,ac,K,ab,.inr ⟨AE ⟨HN.out,rfl⟩,rfl⟩⟩
   ·have HQ:=AE (show∃pre,pre <+:ys/\Jx pre W3 from⟨pre++ [f],⟨P,by rw[H.out,G];simp⟩,an⟩);clear hy hR
    gi_wp2
    first
    | refine Ba (results_none rfl _ _ _) rfl ?_
    | go_end0
    exact⟨⟨_,rfl⟩,.inr HQ.out⟩
set_option maxRecDepth 100000 in
set_option maxHeartbeats 2000000 in
theorem q_AppSeq{gf:Nat}{lb:Array Value}{ys:List Nm}(eg:∀args w,(callFunc gf args).run AD w= .ok (.enter gf args) w)(hl:ys.length<=1000)
  (V:∀(n:Nat)(w1:World),1<=n->mBw w w1->SeqStopsK Ce n AD gf lb (λz:Nm=> #[Bc z]) (Kb w.heap.size O) (λzs=>zs=ys) (λpre=>pre <+:ys) ys.length w1):
  AF AD 205 #[.slice none 0 0,.func (.func gf) #[] lb] w λe w'=>∃v,e= .returned v/\aU w' w.heap.size v ys/\mBw w w':=by
 refine(callsIn_wide (n:=3)).1 ?_;have h1:(1:Nat)<=3:=it
 have au:(1000:Nat)<=maxLen:=by unfold maxLen;omega
 obtain⟨i0,hi,ak,am,an⟩:=info_parts (show(AD.info? 9).map (λi=>(i.zero,i.size,i.bytes))=some (some (.string BZ),1,16)by kernel_rfl);refine callsIn_of_wp_marks Tryz.func205 rfl trivial ?_ rfl;simp only[Tryz.ntmps205,BW,Bh,Dc,Nat.reduceAdd,Nat.reduceSub,Array.replicate_succ,Array.replicate_zero,List.push_toArray,List.append_toArray,Db,DA]
 gi_wp2
 have bO:=Boxed.new w 68 (.slice none 0 0);have J:mBw w (w.alloc (.cells #[.slice none 0 0] 68)):=(AH _ w).alloc (AI _) _;refine wpIn_rangeFunc_ownG (F:=Ce) (n:=3) rfl h1 (gf:=gf) (lb:=lb) rfl trivial eg
  (V 2 _ it J) (λ{_ _ _} h k=>h.trans k) (kb_b Ad) (AH _ _) (λ_=>rfl)
  (λpre W=>(∃v,Boxed W w.heap.size 68 v/\W.ownsRow w.heap.size 9 1 v pre.length (pre.map Bc)/\True)/\mBw w W)
  (λ_ _ _=>False)
  (OwnFrom.and (Own.from (holdsRow_own w.heap.size w.heap.size 68 9 1 (λpre:List Nm=>pre.length) (λpre=>pre.map Bc) (λ_ _=>True)) _) (ownFrom_below (AI _) Ad))
  (λ_ _ _ _ _ hs _ _=>hs)
  ⟨⟨_,bO,Dz _ _ _ _,trivial⟩,J⟩
  (λx=> {tmps:=#[.slice none 0 0,.func (.func gf) #[] lb,.pointer (some ⟨w.heap.size,0,none⟩),undef,.slice none 0 0,.string x,.func (.func gf) #[] lb,.string x,undef,undef,undef,undef,undef],defers:=[]}) ?assign ?body ?done ?stop
 case assign=>
  intro l x W K P
  gi_wp2
  exact P
 case body=>
  rintro l pre x W ⟨⟨v,Z,C,_⟩,I⟩ ar;have hc:=Z.cell
  gi_wp2_with (gi_at_builtin;refine wpListIn_append_own _ rfl _ _ 68 rfl w.heap.size 9 i0 (.string BZ) 1 16 DJ hi ak am an rfl it _ _ _ rfl (C.alloc _) ⟨W.heap.size,0,none⟩ 1 1 [.string x] rfl rfl (cell_one_new _ _ _) (by simp[Value.oneCell']) no no (by have:=I.size;simp;omega) ?_;intro v' w1 G H _;obtain⟨g',ao,rfl⟩:=ownsRow_succ G;obtain⟨Y,ac,ab,aa,U⟩:=Z.appended it C I.size (AI _) G H;have ap:=Y.cell;have aq:=Y.frozen)
  exact⟨aa.from _,.below U,⟨_,ac,by simpa using ab,trivial⟩,I.trans U⟩
 case done=>
  rintro D zs W hD rfl ⟨⟨v,Z,C,_⟩,I⟩ P;have hc:=Z.cell
  gi_wp2
  refine⟨Ad,.inl ⟨_,_,rfl,run_takeDeferred P,?_⟩⟩;exact⟨_,results_tmp rfl _ _ _,v,rfl,ownsRow_putObj C _ P rfl,I.trans (belowK_b (w:=w) (AI _) W D _ _ (by simp at hD;omega) P rfl rfl)⟩
 case stop=>
  rintro D c pre W _ _ h _;exact h.elim
end
end Go.Proofs.YtggfmklppkioeaaGreat
