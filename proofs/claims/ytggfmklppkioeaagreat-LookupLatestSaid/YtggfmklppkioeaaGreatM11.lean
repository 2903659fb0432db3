/- The reference's frames: rows of texts, an insertion. -/
import Derived.Test.YtggfmklppkioeaaGreatM10
import Derived.Deep.QuietTactic
import Derived.Deep.MidRow
namespace Go.Proofs.YtggfmklppkioeaaGreat
set_option linter.unusedSimpArgs false
set_option linter.unusedVariables false
set_option maxRecDepth 100000
open Go.RowKit
open _root_.Go renaming Addr → AU,Calls → AC,Operand → AP,bodyPost_ret → A7,heap_alloc_new → Bm,heap_setCell_same → CZ,wpAnyH_done → Ep,wpAnyH_ready → Fr,wpAnyH_take → BQ,wp_block → Cq,wp_region_held_drew → Eo,wp_region_list → Bn,wp_ret → Ct,wp_seq → BP,yieldsIf_load_mid → FK
open _root_.Go.RowKit renaming Below → Bi
open _root_.Go.AllReadyH renaming cons → Fj,nil → Fk
open _root_.Array renaming getElem?_eq_some_iff → AZ,toList_setIfInBounds → FU
open _root_.Go.RowKit.Below renaming refl → AF
open _root_.Go.Builtin renaming append_ → BM
open _root_.ByteArray renaming empty → BW,toList → Fi
open _root_.Go.Instr renaming buildSlice → DU
open _root_.Int renaming tmod_eq_emod_of_nonneg → DS
open _root_.Go.Lib renaming hid → AA
open _root_.List renaming cons_append → Dw,eq_nil_of_length_eq_zero → CF,ext_getElem? → DI,find?_eq_none → CW,flatMap_append → DB,getElem?_append_left → Bz,getElem?_append_right → Bv,getElem?_drop → Cv,getElem?_eq_getElem → AJ,getElem?_eq_none → EF,getElem?_eq_some_iff → AX,getElem?_map → Bp,getElem?_of_mem → Di,getElem?_take → BI,getElem_of_mem → BK,length → DP,length_append → Bh,length_cons → Bg,length_drop → CB,length_take → A9,map_append → Ce,mem_append → AG,mem_cons → AS,mem_cons_of_mem → Bf,mem_cons_self → Bo,mem_flatMap → Br,mem_map → Ba,mem_of_getElem? → A0,nil_append → C8,nodup_append → BJ,nodup_cons → Bu,not_mem_nil → Dt,pairwise_append → DA,size_toArray → Cb,take_add_one → El,take_append_drop → Fe,take_length → EN,take_of_length_le → FS
open _root_.Nat renaming add_sub_cancel_left → Ez,le_of_not_lt → DK,le_refl → AE,le_succ → DR,le_trans → AD,lt_of_lt_of_le → Bt,lt_or_eq_of_le → DD,lt_or_ge → Bc,min_eq_left → Fp,not_lt_zero → CX,sub_self → Df,zero_add → A5,zero_le → AY
open _root_.Option renaming map_some → BG,some → A3
open _root_.Or renaming inl → AR
open _root_.Go.Sem renaming run_bind → AH
open _root_.Go.Proofs.Tryz renaming func103 → EU,func207 → ER,prog → AB,underlying120 → Eh,underlying183 → Cy,underlying39 → CC,underlying68 → DE
open _root_.Go.Value renaming int → AK,ownBlock → Cx,slice → D9,string → Bb
open _root_.Go.World renaming cell?_of_block → BZ,frozen? → Dl,ownsRow_nil → Dv
section
open Classical
abbrev jy(a b:Nm):Prop:=a.data.toList<b.data.toList
theorem sK:∀(x y:List UInt8),Op.bytesLess x y=decide (x<y)
 | [],[]=>by simp[Op.bytesLess]
 | _::_,[]=>by simp[Op.bytesLess]
 | [],_::_=>by simp[Op.bytesLess]
 | a::x,b::y=>by
  rw[Op.bytesLess,sK x y];simp only[List.cons_lt_cons_iff];by_cases h1:a<b<;>by_cases h2:a=b<;>by_cases h3:x<y<;>simp[h1,h2,h3]
theorem less_nm(c d:Nm):Op.bytesLess (Fi c) (Fi d)=decide (jy c d):=by
 rw[sK,Lib.toList_data,Lib.toList_data]
abbrev SRow(w:World)(v:Value)(l:List Nm):Prop:=aX w 9 1 v l.length (l.map Bb)
variable{w:World}{g:Nat}{xs:List Value}
theorem xk{T:TypeId}{sz n c j:Nat}{u:Value}(h:aX w T sz (.slice (some ⟨g,0,none⟩) n c) n xs)(P:noU u):aX (w.setCell ⟨g,j,none⟩ u) T sz (.slice (some ⟨g,0,none⟩) n c) n (xs.set j u):=by
 obtain⟨⟨h1,h2⟩,h3⟩:=h;rcases h2 with⟨e,_⟩ | ⟨J,cap,cur,e,hb,H,hn,K,F,ht⟩
 ·cases e
 ·have C:g=J/\c=cap:=by injection e with C _ I;injection C with C;injection C with C;exact⟨C,I⟩
  obtain⟨rfl,rfl⟩:=C;have hs:=CZ w g j cur T u H;refine⟨⟨by rw[List.length_set];exact h1,.inr ⟨g,c,cur.setIfInBounds j u,rfl,hb,hs,hn,K,by simpa using F,?_⟩⟩,λg2 G=> ?_⟩
  ·rw[FU,List.take_set,ht]
  ·obtain rfl:g=g2:=A3.inj G;refine jf hs (λy hy=> ?_);rw[FU]at hy;rcases List.mem_or_eq_of_mem_set hy with hy | rfl
   ·exact sk H (h3 _ rfl) y hy
   ·exact P
theorem aa5{T:TypeId}{n c j:Nat}{u:Value}(h:aX w T 1 (.slice (some ⟨g,0,none⟩) n c) n xs)(_:j<n)(C:noU u):aX (w.setCell ⟨g,j,none⟩ u) T 1 (.slice (some ⟨g,0,none⟩) n c) n (xs.set j u):=xk h C
theorem mW(c:Nm):noU (.string c):=λn e=>by cases e
theorem srow_app{v:Value}{l:List Nm}{x:Nm}{ty:TypeId}(h:SRow w v l)(hl:l.length<=2000000)(F:∀j u,[Bb x][j]? =some u->w.cell? ((⟨g,0,none⟩:AU).add j)=some u){B:Nat}{w0:World}(hb:Bi B w0 w)(G:B<=w.heap.size)(H:∀g,v.ownBlock=some g->B<=g):
  ∃v' w',(BM #[68,68] ty #[v,.slice (some ⟨g,0,none⟩) 1 1]).run AB w= .ok v' w'/\SRow w' v' (l++ [x])/\Bi B w0 w'/\∀g,v'.ownBlock=some g->B<=g:=by
 obtain⟨v',w',J,k2,k3,K⟩:=jY (p:=AB) (ty:=ty) (c:=1) (m:=1) (sz:=1) (bytes:=16) DE Aa h rfl F (λu C=>by simp at C;subst C;rfl) (λu C=>by simp at C;subst C;exact mW _) it no no;refine⟨v',w',J,?_,hb.grown k2 G (λk I=>H k I),λg F=>(k3 g F).elim (H g) (λh=>AD G h)⟩;show aX w' _ 1 v' (l++ [x]).length _;rw[Bh,Ce];exact K
section
variable {α:Type}
def fA{α:Type}(l:List α)(x:α)(p:Nat):List α:=l.take p++x::l.drop p
variable{p:Nat}
theorem qG{l:List α}{x:α}(h:p<=l.length):(fA l x p).length=l.length+1:=by unfold fA;simp;omega
theorem insN_end(l:List α)(x:α):fA l x l.length=l++ [x]:=by unfold fA;simp
theorem insN_mem{l:List α}{x y:α}:y∈fA l x p↔y∈l\/y=x:=by
 unfold fA;rw[AG,AS];constructor
 ·rintro(h | h | h)
  ·exact .inl (List.mem_of_mem_take h)
  ·exact .inr h
  ·exact .inl (List.mem_of_mem_drop h)
 ·rintro(h | h)
  ·rw[<-Fe p l]at h;rcases AG.1 h with h | h
   ·exact .inl h
   ·exact .inr (.inr h)
  ·exact .inr (.inl h)
theorem insN_step{l:List α}{x y:α}(h:l[p]? =some y):((fA l x (p+1)).set (p+1) y).set p x=fA l x p:=by
 obtain⟨A,B,rfl,rfl⟩:=d9 h;have C:fA (A++y::B) x (A.length+1)=A++y::x::B:=by
  unfold fA;simp only[List.take_append,List.drop_append,Ez,List.take_succ_cons,List.take_zero,List.drop_succ_cons,List.drop_zero];rw[FS no,List.drop_eq_nil_of_le no];simp
 have F:fA (A++y::B) x A.length=A++x::y::B:=by unfold fA;simp
 rw[C,F];simp[List.set_append]
theorem insN_at{l:List α}{x:α}(h:p<=l.length):(fA l x p)[p]? =some x:=by
 unfold fA;rw[Bv (by rw[A9];omega),A9,Fp h,Df];rfl
theorem insN_bef{l:List α}{x y:α}(h:l[p]? =some y):(fA l x (p+1))[p]? =some y:=by
 have hp:=(AX.1 h).1;unfold fA;rw[Bz (by rw[A9];omega),BI,if_pos no];exact h
theorem insN_sort{r:α->α->Prop}{l:List α}{x:α}(hl:l.Pairwise r)(h1:∀z∈l.drop p,r x z)(h2:∀z∈l.take p,r z x):(fA l x p).Pairwise r:=by
 unfold fA;rw[DA];rw[<-Fe p l,DA]at hl;refine⟨hl.1,List.pairwise_cons.2 ⟨h1,hl.2.1⟩,λa ha b hb=> ?_⟩;rcases AS.1 hb with rfl | hb
 ·exact h2 a ha
 ·exact hl.2.2 a ha b hb
end
theorem nmlt_or{a b:Nm}(h:a≠b)(k:¬jy a b):jy b a:=by
 have h1:b.data.toList<=a.data.toList:=List.not_lt.1 k;rcases List.le_iff_lt_or_eq.1 h1 with h2 | h2
 ·exact h2
 ·exact absurd (by cases a;cases b;simp at h2;subst h2;rfl) h
end
section
open Classical
def nmE(L:List Rl)(i:Nat):Option Nm:=(L[i / 2]?).map λl=>if i % 2=1 then l.x.par else l.c
variable{L:List Rl}{x:Nm}
theorem nmE_known:(∃i,i<2*L.length/\nmE L i=some x)↔aC (trR L) x:=by
 rw[j4];constructor
 ·rintro⟨i,_,h⟩;unfold nmE at h
  cases hl:L[i / 2]? with
  | none=>rw[hl]at h;cases h
  | some l=>
   rw[hl]at h;simp only[BG,A3.injEq]at h;refine⟨i / 2,l,hl,?_⟩;split at h
   ·exact .inr h
   ·exact .inl h
 ·rintro⟨i,l,h,h1⟩;have hi:=(AX.1 h).1;rcases h1 with h1 | h1
  ·exact⟨2*i,no,by unfold nmE;rw[show 2*i / 2=i by omega,h,BG,if_neg no,h1]⟩
  ·exact⟨2*i+1,no,by unfold nmE;rw[show(2*i+1) / 2=i by omega,h,BG,if_pos no,h1]⟩
structure FrS(L:List Rl)(k:Nat)(l:List Nm):Prop where
 mem:∀x,x∈l↔∃i,i<k/\nmE L i=some x
 srt:l.Pairwise jy
 len:l.length<=k
variable{l:List Nm}
theorem FrS.same{k:Nat}(h:FrS L k l)(F:nmE L k=some x)(C:x∈l):FrS L (k+1) l:=
 ⟨λy=>(h.mem y).trans ⟨λ⟨i,hi,e⟩=>⟨i,no,e⟩,λ⟨i,hi,e⟩=>by
  rcases Bc i k with h1 | h1
  ·exact⟨i,h1,e⟩
  ·obtain rfl:i=k:=no
   rw[F]at e;injection e with e;subst e;exact(h.mem x).1 C⟩,h.srt,Nat.le_succ_of_le h.len⟩
variable{p:Nat}
theorem FrS.add{k:Nat}(h:FrS L k l)(C:nmE L k=some x)(hp:p<=l.length)(h1:∀z∈l.drop p,jy x z)(h2:∀z∈l.take p,jy z x):FrS L (k+1) (fA l x p):=
 ⟨λy=>by
  rw[insN_mem,h.mem];constructor
  ·rintro(⟨i,hi,e⟩ | rfl)
   ·exact⟨i,no,e⟩
   ·exact⟨k,no,C⟩
  ·rintro⟨i,hi,e⟩;rcases Bc i k with h3 | h3
   ·exact .inl ⟨i,h3,e⟩
   ·obtain rfl:i=k:=no
    rw[C]at e;injection e with e;exact .inr e.symm,insN_sort h.srt h1 h2,by rw[qG hp];have:=h.len;omega⟩
theorem take_ltG{α:Type}{r:α->α->Prop}(ht:∀a b c,r a b->r b c->r a c){l:List α}{x y:α}(hl:l.Pairwise r)(hy:l[p]? =some y)(h:r y x):∀z∈l.take (p+1),r z x:=by
 obtain⟨A,B,rfl,rfl⟩:=d9 hy;intro z hz;rw[show(A++y::B).take (A.length+1)=A++ [y]by
  simp[List.take_append];exact FS no]at hz
 rcases AG.1 hz with hz | hz
 ·exact ht _ _ _ ((DA.1 hl).2.2 z hz y (Bo ..)) h
 ·simp only[List.mem_singleton]at hz;subst hz;exact h
theorem take_lt{y:Nm}(hl:l.Pairwise jy)(hy:l[p]? =some y)(h:jy y x):∀z∈l.take (p+1),jy z x:=take_ltG (r:=jy) (λ_ _ _ h k=>List.lt_trans h k) hl hy h
theorem drop_at{α:Type}{l:List α}{q:Nat}{y z:α}(h:l[q]? =some y)(hz:z∈l.drop q):z=y\/z∈l.drop (q+1):=by
 obtain⟨i,hi⟩:=Di hz;rw[Cv]at hi
 cases i with
 | zero=>rw[Nat.add_zero,h]at hi;injection hi with hi;exact .inl hi.symm
 | succ i=>exact .inr (A0 (i:=i) (by rw[Cv,show q+1+i=q+(i+1)by omega];exact hi))
theorem own_thaw{w:World}{T:TypeId}{g n c i j:Nat}{xs:List Value}(h:aX w T 1 (.slice (some ⟨g,0,none⟩) n c) n xs):w.frozen? ⟨g,i,none⟩=false/\w.frozen? ⟨g,j,none⟩=false:=by
 rcases h.1.2 with⟨e,_⟩ | ⟨F,cap,cur,e,hb,C,_⟩
 ·cases e
 ·obtain rfl:g=F:=by injection e with e;injection e with e;injection e
  exact⟨by simp[Dl,C],by simp[Dl,C]⟩
set_option maxHeartbeats 4000000 in
theorem q_FramesR{w:World}{t:Nat}{v:Value}(h:RM w t v L)(hn:L.length<=1000000):AC AB 105 #[ptB t] w λe w'=>∃v' l,e= .returned v'/\SRow w' v' l/\(∀g,v'.ownBlock=some g->w.heap.size<=g)/\(∀x,x∈l↔aC (trR L) x)/\l.Pairwise jy/\mBw w w':=by
 have HM:=AA (show∀wq,mBw w wq->RM wq t v L from λwq k=>h.below k);obtain⟨ad,cp,hv⟩:=h.form;obtain⟨n,hN⟩:∃n,n=L.length:=⟨_,rfl⟩;have HN:=AA hN;rw[<-hN]at hv hn;subst hv;have bO:(n:Int)<=1000000:=no
 clear h hN hn;go_enter Tryz.func105,Tryz.ntmps105
 go_wp2;go_loopw [3,4] (λs3 s4 wr=>∃(k:Nat)(l:List Nm),k<=2*n/\s4= .int .i64 (k:Int)/\Hid (SRow wr s3 l)/\Hid (∀g,s3.ownBlock=some g->w.heap.size<=g)/\Hid (FrS L k l)/\Hid (mBw w wr)) (λ_ s4 _=>2*n - (intOf s4).toNat)
 case atStart=>exact⟨0,[],AY _,rfl,AA ⟨Dv _ _ _ _,λg F=>by cases F⟩,AA (λg F=>by cases F),AA ⟨λx=>⟨λh=>(by cases h),λ⟨i,hi,_⟩=>absurd hi (CX _)⟩,List.Pairwise.nil,AY _⟩,AA (AF _ _)⟩
 case round=>
  obtain⟨k,l,hk,rfl,HW,HO,Z,Y⟩:=hrel;have a1:=(HM.out wr Y.out).cell;have a4:(l.length:Int)<=2000000:=by have:=Z.out.len;omega
  rcases Bc k (2*n)with bt | bb
  ·have bq:(k:Int)<2*(n:Int):=no
   obtain⟨j,hj⟩:∃j,k / 2=j:=⟨_,rfl⟩;have a3:j<n:=no
   have bp:(j:Int)<(n:Int):=no
   obtain⟨e0,U⟩:∃l,L[j]? =some l:=⟨_,AJ (by rw[<-HN.out];exact a3)⟩;obtain⟨b,c2,cs,e,A⟩:=(HM.out wr Y.out).at U;injection e with e1 _ e3;subst e1;subst e3;have fc:=A.c;have fp:=A.par;have a5:(k:Int).tdiv 2=(j:Int):=by rw[Int.tdiv_eq_ediv_of_nonneg no];omega
   obtain⟨aa,J,rfl⟩:=cL HW.out.1;obtain⟨x,hx⟩:∃x,(if k % 2=1 then e0.x.par else e0.c)=x:=⟨_,rfl⟩;have HX:=AA (show nmE L k=some x by unfold nmE;rw[hj,U,BG,hx]);have a7:=AA U;obtain⟨m,hm⟩:∃m,l.length=m:=⟨_,rfl⟩;have C:=AA hm;have P:=AA (show aX wr 9 1 (.slice aa m J) m (l.map Bb)by rw[<-hm];exact HW.out);have bz:(m:Int)<=2000000:=no
   rw[hm]at HW HO⊢;clear A U a4 HW hm;obtain hr | hr:k % 2=0\/k % 2=1:=no
   all_goals first
    | (rw[if_neg no]at hx;have av:(k:Int).tmod 2=0:=(by rw[DS no];omega);rw[hx]at fc;clear hx hr;go_upto_region 8 with(fail))
    | (rw[if_pos hr]at hx;have av:(k:Int).tmod 2=1:=(by rw[DS no];omega);rw[hx]at fp;clear hx hr;go_upto_region 8 with(fail))
   all_goals
    clear fc fp a5 av a1;go_wp2;go_loopw [6,7] (λs6 s7 wq=>∃(i:Nat),i<=m/\s7= .int .i64 (i:Int)/\s6= .bool (decide (x∈l.take i))/\wq=wr) (λ_ s7 _=>m - (intOf s7).toNat)
    case atStart=>exact⟨0,AY _,rfl,Ad,rfl⟩
    case round=>
     obtain⟨i,hi,rfl,rfl,a6⟩:=hrel;obtain rfl:=a6;rcases Bc i m with a2 | be
     ·have bi:(i:Int)<(m:Int):=no
      obtain⟨y,hy⟩:∃y,l[i]? =some y:=⟨_,AJ (by rw[C.out];exact a2)⟩;obtain⟨g,F,a9⟩:=cQ P.out.1 (show(l.map Bb)[i]? =some (.string y)by rw[Bp,hy];rfl);subst F;have HT:=AA (show∀z:Nm,z∈l.take (i+1)↔z∈l.take i\/z=y from λz=>by rw[El,hy];simp);by_cases m1:x∈l.take i
      ·have H:decide (x∈l.take i)=true:=decide_eq_true m1;have HD:=AA (show decide (x∈l.take (i+1))=true from decide_eq_true ((HT.out x).2 (.inl m1)));rw[H];clear m1 hy H;go_wp2;go_roundw
       case rel=>exact⟨i+1,no,by go_num,by rw[HD.out],by trivial⟩
       case measure=>simp[intOf];omega
      ·have H:decide (x∈l.take i)=false:=decide_eq_false m1;rw[H];by_cases m2:y=x
       ·have q1:=kP m2;have HD:=AA (show decide (x∈l.take (i+1))=true from decide_eq_true ((HT.out x).2 (.inr m2.symm)));clear m1 m2 hy H;go_wp2;go_roundw
        case rel=>exact⟨i+1,no,by go_num,by rw[HD.out],by trivial⟩
        case measure=>simp[intOf];omega
       ·have q1:=gU m2;have HD:=AA (show decide (x∈l.take (i+1))=false from decide_eq_false (λh=>((HT.out x).1 h).elim m1 (λe=>m2 e.symm)));clear m1 m2 hy H;go_wp2;go_roundw
        case rel=>exact⟨i+1,no,by go_num,by rw[HD.out],by trivial⟩
        case measure=>simp[intOf];omega
     ·obtain rfl:i=m:=no
      have ac:l.take i=l:=by rw[<-C.out,EN]
      rw[ac];by_cases m1:x∈l
      ·have I:=AA (Z.out.same HX.out m1);rw[decide_eq_true m1];clear m1 ac;go_wp2;go_roundw
       case rel=>exact⟨k+1,l,no,by go_num,AA (by show aX _ _ _ _ l.length _;rw[C.out];exact P.out),HO,I,Y⟩
       case measure=>simp[intOf];omega
      ·rw[decide_eq_false m1];have ax:=AA m1;clear m1 ac;go_upto_region 14 with(fail)
       refine Bn ?_;have ar:∀(j:Nat)(u:Value),[Bb x][j]? =some u->(wr.alloc (.cells #[.string x] 9)).cell? ((⟨wr.heap.size,0,none⟩:AU).add j)=some u:=λj u hu=>by
        rw[bM,A5,aH (Bm wr _)]
        cases j with
        | zero=>simpa using hu
        | succ j=>simp at hu
       obtain⟨v5,w5,V,aq,ao,ap⟩:=srow_app (ty:=68) (x:=x) (l:=l) (v:=.slice aa i J) (w:=wr.alloc (.cells #[.string x] 9)) (by show aX _ _ _ _ l.length _;rw[C.out];exact P.out.keep (λg F=>heap_alloc_old wr _ (bV P.out.1 F).2)) (by rw[C.out];omega) ar (Y.out.alloc Y.out.size _) (by rw[asz];have:=Y.out.size;omega) HO.out;have ab:aX w5 9 1 v5 (i+1) ((l++ [x]).map Bb):=by
        have:aX w5 9 1 v5 (l++ [x]).length ((l++ [x]).map Bb):=aq;rwa [Bh,C.out]at this
       obtain⟨g5,an,rfl⟩:∃g cap,v5= .slice (some ⟨g,0,none⟩) (i+1) cap:=by
        rcases ab.1.2 with⟨_,h⟩ | ⟨g,cap,cur,e,_⟩
        ·cases h
        ·exact⟨g,cap,e⟩
       have ay:=AA ab;have ak:=AA ao;have K:=AA ap;have am:=AA V;clear aq ab ao ap ar V;refine ae rfl (v:=.slice aa i J) (w':=wr) Af ?_;refine ae rfl (v:=.string x) (w':=wr) Af ?_;refine ae rfl (v:=.slice (some ⟨wr.heap.size,0,none⟩) 1 1) (w':=wr.alloc (.cells #[.string x] 9)) Ah ?_;refine jk rfl rfl rfl rfl am.out ?_;go_wp2;go_loopw [8,9] (λs8 _ wq=>∃p,p<=i/\s8= .int .i64 (p:Int)/\Hid (aX wq 9 1 (.slice (some ⟨g5,0,none⟩) (i+1) an) (i+1) ((fA l x p).map Bb))/\Hid (∀z∈l.drop p,jy x z)/\Hid (mBw w wq)) (λs8 _ _=>(intOf s8).toNat)
       case atStart=>exact⟨i,AE _,by go_num,AA (by rw[<-C.out,insN_end,C.out];exact ay.out),AA (λz hz=>by rw[<-C.out,List.drop_length]at hz;cases hz),ak⟩
       case round=>
        obtain⟨p,hp,rfl,HR,HZ,HQ⟩:=hrel;clear ak
        cases p with
        | zero=>
         go_upto_region 16 with(fail)
         go_quiet (fail)
         have I:=AA (Z.out.add HX.out (AY _) HZ.out (λz hz=>by rw[List.take_zero]at hz;cases hz));go_wp2;go_roundw
         case rel=>exact⟨k+1,fA l x 0,no,by go_num,AA (by show aX _ _ _ _ (fA l x 0).length _;rw[qG (AY _),C.out];exact HR.out.keep (λg _=>rfl)),K,I,AA (aN HQ.out _)⟩
         case measure=>simp[intOf];omega
        | succ q=>
         have hq0:decide (0<((q+1:Nat):Int))=true:=decide_eq_true no;obtain⟨y,hy⟩:∃y,l[q]? =some y:=⟨_,AJ (by rw[C.out];omega)⟩;obtain⟨g,F,c1⟩:=cQ HR.out.1 (show((fA l x (q+1)).map Bb)[q+1]? =some (.string x)by rw[Bp,insN_at (by rw[C.out];exact hp)];rfl);obtain rfl:g5=g:=by injection F with F;injection F with F
         obtain⟨g,G,c0⟩:=cQ HR.out.1 (show((fA l x (q+1)).map Bb)[q]? =some (.string y)by rw[Bp,insN_bef hy];rfl);obtain rfl:g5=g:=by injection G with G;injection G with G
         have b0:((q+1:Nat):Int) - 1=(q:Int):=no
         have HY:=AA hy;have au:=less_nm x y;by_cases m2:jy x y
         ·rw[decide_eq_true m2]at au;have a0:=AA (show∀z∈l.drop q,jy x z from λz hz=>(drop_at HY.out hz).elim (λe=>e▸m2) (HZ.out z));obtain⟨b2,b1⟩:wr.frozen? ⟨g5,q+1,none⟩=false/\wr.frozen? ⟨g5,q,none⟩=false:=own_thaw HR.out;clear m2 hy F G;go_upto_region 16 with(fail)
          go_quiet (fail)
          go_wp2;go_roundw
          case rel=>exact⟨q,no,by go_num,AA (by
           have h1:=aa5 (aa5 (HR.out.keep (w':=wr.drewN nq) (λg _=>rfl)) (show q+1<i+1 by omega) (mW y)) (show q<i+1 by omega) (mW x);rw[<-List.map_set,<-List.map_set,insN_step HY.out]at h1;exact h1),a0,AA (((aN HQ.out nq).setCell (p:=⟨g5,q+1,none⟩) (K.out _ rfl) _).setCell (p:=⟨g5,q,none⟩) (K.out _ rfl) _)⟩
          case measure=>simp[intOf]
         ·rw[decide_eq_false m2]at au;have I:=AA (Z.out.add HX.out (by rw[C.out];exact hp) HZ.out (take_lt Z.out.srt hy (nmlt_or (λe=>ax.out (e▸A0 hy)) m2)));clear m2 hy F G;go_upto_region 16 with(fail)
          go_quiet (fail)
          go_wp2;go_roundw
          case rel=>exact⟨k+1,fA l x (q+1),no,by go_num,AA (by show aX _ _ _ _ (fA l x (q+1)).length _;rw[qG (by rw[C.out];exact hp),C.out];exact HR.out.keep (λg _=>rfl)),K,I,AA (aN HQ.out _)⟩
          case measure=>simp[intOf];omega
  ·obtain rfl:k=2*n:=no
   have HK:=AA (show∀x,x∈l↔aC (trR L) x from λx=>by rw[Z.out.mem,HN.out,nmE_known]);go_wp2;go_ret;exact⟨_,l,rfl,HW.out,HO.out,HK.out,Z.out.srt,Y.out⟩
end
section
open Classical
structure RPost(w:World)(t:Nat)(v:Value)(L:List Rl)(w':World)(v':Value)(L':List Rl):Prop where
 rm:RM w' t v' L'
 kp:Kp w (fpR t v L) w'
 fp:∀g∈fpR t v' L',g∈fpR t v L\/w.heap.size<=g
section
variable {w w':World} {t:Nat} {v:Value} {L:List Rl} {l l':Rl} {A B:List Rl}
theorem RPost.refl(h:RM w t v L)(hb:Bi w.heap.size w w'):RPost w t v L w' v L:=⟨h.below hb,.of_below hb,λ_ h=>.inl h⟩
theorem aa6(A B:List Rl):rlQ (A++B)=rlQ A++rlQ B:=by unfold rlQ;rw[DB]
theorem mX(A B:List Rl)(l:Rl):rlQ (A++l::B)=rlQ A++(l.qs++rlQ B):=by rw[aa6];rfl
theorem kC(A B:List Rl)(l:Rl):trR (A++l::B)=trR A++(l.c,l.x)::trR B:=by unfold trR;rw[Ce];rfl
theorem fpR_mid(A B:List Rl)(h1:l'.g=l.g)(h2:l'.sl=l.sl):fpR t v (A++l'::B)=fpR t v (A++l::B):=by
 unfold fpR;simp only[DB,List.flatMap_cons,h1,h2]
theorem aO.mid{H I qs F:List Vp}{xs ys:List Value}(h:aO w (H++(qs++I)) xs)(hl:F.length=qs.length)(hy:aO w' F ys)(hc:∀(j:Nat)(q:Vp)(u:Value),(∀g,¬q.fp w u g)->q.p w u->q.p w' u/\∀g,¬q.fp w' u g):aO w' (H++(F++I)) (xs.take H.length++ys++xs.drop (H.length+qs.length)):=by
 have J:=h.1;simp only[Bh]at J;have get:∀(j:Nat)(q:Vp),(H++(qs++I))[j]? =some q->∃u,xs[j]? =some u/\q.p w' u/\∀g,¬q.fp w' u g:=λj q C=>by
  obtain⟨u,G,k2,k3⟩:=h.2 j q C;exact⟨u,G,hc j q u k3 k2⟩
 refine⟨by have:=hy.1;simp only[Bh,A9,CB];omega,λj q C=> ?_⟩;have K:=hy.1;by_cases h1:j<H.length
 ·rw[Bz h1]at C;obtain⟨u,G,k2⟩:=get j q (by rw[Bz h1];exact C);refine⟨u,?_,k2⟩;rw[Bz (by rw[Bh,A9];omega),Bz (by rw[A9];omega),BI,if_pos h1];exact G
 ·rw[Bv no]at C;by_cases h2:j - H.length<F.length
  ·rw[Bz h2]at C;obtain⟨u,G,k2⟩:=hy.2 _ q C;refine⟨u,?_,k2⟩;rw[Bz (by rw[Bh,A9];omega),Bv (by rw[A9];omega),A9,Fp no];exact G
  ·rw[Bv no]at C;obtain⟨u,G,k2⟩:=get j q (by rw[Bv no,Bv no,<-hl];exact C);refine⟨u,?_,k2⟩;rw[Bv (by rw[Bh,A9];omega),Bh,A9,Cv,Fp no,<-G]
   congr 1;omega
theorem cw{A B:List Nat}(h:(A++B).Nodup){x:Nat}(h1:x∈A)(h2:x∈B):False:=(BJ.1 h).2.2 x h1 x h2 rfl
theorem RM.setL(h:RM w t v (A++l::B)){b c:Nat}(hv:v= .slice (some ⟨b,0,none⟩) (A++l::B).length c)(u:Upd w b w')(hr:∀xs,aX w rlT 27 v (A++l::B).length xs->aO w (rlQ (A++l::B)) xs->∃ys,aX w' rlT 27 v (A++l::B).length (xs.take (rlQ A).length++ys++xs.drop ((rlQ A).length+l.qs.length))/\aO w' l'.qs ys)
  (V:l'.g=l.g)(hs:l'.sl=l.sl)(ht:l'.x.tr=l.x.tr):RPost w t v (A++l::B) w' v (A++l'::B):=by
 have hb:b∈fpR t v (A++l::B):=by rw[hv];simp[fpR,Cx]
 have I:=h.nd;have ab:v.ownBlock=some b:=by rw[hv];rfl
 have P:t≠b/\∀F∈A++l::B,b≠F.g/\∀Y,F.sl.ownBlock=some Y->Y≠b:=by
  unfold fpR at I;rw[ab]at I;obtain⟨a1,a2⟩:=Bu.1 I;refine⟨λe=>a1 (e▸Ad),λF C=>⟨λe=>cw a2 (x:=b) Ad (Br.2 ⟨F,C,by simp[e]⟩),λY J e=>cw a2 (x:=b) Ad (Br.2 ⟨F,C,by simp[J,e]⟩)⟩⟩
 have Z:Chg w w' (· =b):=.upd (h.own _ hb) u;have aa:(A++l'::B).length=(A++l::B).length:=Ad
 have K:fpR t v (A++l'::B)=fpR t v (A++l::B):=fpR_mid A B V hs;have H:∀F∈A++l::B,TrkS rkT w' F.g F.sl F.x.tr:=λF C=>(h.trk F C).chg Z (λe=>(P.2 F C).1 e.symm) (λY J=>(P.2 F C).2 Y J)
 refine⟨⟨by rw[u.block t P.1];exact h.tr,?_,λF C=> ?_,by rw[K];exact I,λg G=> ?_⟩,.upd u hb,λg G=>.inl (by rw[K]at G;exact G)⟩
 ·obtain⟨xs,k1,k2⟩:=h.row;obtain⟨ys,U,hy⟩:=hr xs k1 k2;refine⟨_,by rw[aa];exact U,?_⟩;rw[mX]at k2⊢;exact k2.mid (by rw[gE,gE]) hy (λ_ q y hf hp=>by
   obtain⟨c1,c2⟩:=q.ch w w' _ y hp Z (λg V=>absurd V (hf g));exact⟨c1,λg V=>hf g (c2 g V)⟩)
 ·rcases AG.1 C with C | C
  ·exact H F (AG.2 (.inl C))
  ·rcases AS.1 C with rfl | C
   ·rw[V,hs,ht];exact H l Ad
   ·exact H F (by simp[C])
 ·rw[K]at G;by_cases e:g=b
  ·subst e;obtain⟨xs,k1,k2⟩:=h.row;obtain⟨ys,U,_⟩:=hr xs k1 k2;obtain⟨cs,T,k3,k4⟩:=U.2 g ab;exact .mk' k3 k4
  ·exact(h.own g G).blk (u.block g e) (by rw[u.size];exact AE _)
end
def j5(xs:List Value):Nat->List Value->List Value
 | _,[]=>xs
 | o,u::us=>j5 (xs.set o u) (o+1) us
theorem oq:∀(us:List Value)(xs:List Value)(o:Nat),(j5 xs o us).length=xs.length
 | [],_,_=>rfl
 | u::us,xs,o=>by rw[j5,oq];simp
theorem kD:∀(us:List Value)(xs:List Value)(o j:Nat),o+us.length<=xs.length->(j5 xs o us)[j]? =if o<=j/\j<o+us.length then us[j - o]? else xs[j]?
 | [],xs,o,j,_=>by rw[j5,if_neg (by simp only[List.length_nil];omega)]
 | u::us,xs,o,j,h=>by
  simp only[Bg]at h⊢;rw[j5,kD us _ _ _ (by simp;omega),List.getElem?_set];by_cases h1:o+1<=j/\j<o+1+us.length
  ·rw[if_pos h1,if_pos no,show j - o=(j - (o+1))+1 by omega];rfl
  ·rw[if_neg h1];by_cases h2:o=j
   ·subst h2;rw[if_pos rfl,if_pos no,if_pos no,Df];rfl
   ·rw[if_neg h2,if_neg no]
theorem setsL_mid(xs us:List Value)(n m o:Nat)(h:o+us.length<=m)(hl:n+m<=xs.length):j5 xs (n+o) us=xs.take n++j5 ((xs.drop n).take m) o us++xs.drop (n+m):=by
 have F:((xs.drop n).take m).length=m:=by rw[A9,CB];omega
 refine DI (λj=> ?_);rw[kD _ _ _ _ no];have C:=oq us ((xs.drop n).take m) o;by_cases h1:j<n
 ·rw[if_neg no,Bz (by rw[Bh,A9];omega),Bz (by rw[A9];omega),BI,if_pos h1]
 ·by_cases h2:j<n+m
  ·rw[Bz (by rw[Bh,A9];omega),Bv (by rw[A9];omega),A9,Fp no,kD _ _ _ _ no];by_cases h3:o<=j - n/\j - n<o+us.length
   ·rw[if_pos h3,if_pos no];congr 1;omega
   ·rw[if_neg h3,if_neg no,BI,if_pos no,Cv];congr 1;omega
  ·rw[if_neg no,Bv (by rw[Bh,A9];omega),Bh,A9,Cv,Fp no];congr 1;omega
theorem xl{T:TypeId}{sz g n c:Nat}:∀(us:List Value)(w:World)(xs:List Value)(o:Nat),aX w T sz (.slice (some ⟨g,0,none⟩) n c) n xs->(∀u∈us,noU u)->aX (w.setCells g o us) T sz (.slice (some ⟨g,0,none⟩) n c) n (j5 xs o us)
 | [],_,_,_,h,_=>h
 | u::us,w,xs,o,h,hu=>xl us _ _ _ (xk h (hu u (Bo ..))) (λy hy=>hu y (Bf _ hy))
theorem zO{w w':World}{qs C:List Vp}{cs us:List Value}{o:Nat}(h:aO w qs cs)(hl:C.length=qs.length)(G:o+us.length<=qs.length)(h1:∀(j:Nat)(q:Vp),j<us.length->C[o+j]? =some q->∃u,us[j]? =some u/\q.p w' u/\∀g,¬q.fp w' u g)(h2:∀j,j<o\/o+us.length<=j->C[j]? =qs[j]?)
  (hc:∀(q:Vp)(u:Value),(∀g,¬q.fp w u g)->q.p w u->q.p w' u/\∀g,¬q.fp w' u g):aO w' C (j5 cs o us):=by
 refine⟨by rw[oq,h.1,hl],λj q F=> ?_⟩;rw[kD _ _ _ _ (by rw[h.1];exact G)];by_cases h3:o<=j/\j<o+us.length
 ·rw[if_pos h3];exact h1 (j - o) q no (by rw[show o+(j - o)=j by omega];exact F)
 ·rw[if_neg h3];rw[h2 j no]at F;obtain⟨u,H,k2,k3⟩:=h.2 j q F;exact⟨u,H,hc q u k3 k2⟩
theorem aO.cut{w:World}{F J qs:List Vp}{xs:List Value}(h:aO w (F++(qs++J)) xs):aO w qs ((xs.drop F.length).take qs.length):=by
 have H:=h.1;simp only[Bh]at H;refine⟨by rw[A9,CB];omega,λj q G=> ?_⟩;have C:=(AX.1 G).1;obtain⟨u,I,k2⟩:=h.2 (F.length+j) q (by rw[Bv no,Ez,Bz C];exact G);exact⟨u,by rw[BI,if_pos C,Cv];exact I,k2⟩
end
section
open Classical
variable{w:World}{t:Nat}
theorem RM.put{v:Value}{l l':Rl}{A B:List Rl}(h:RM w t v (A++l::B)){b c:Nat}(H:v= .slice (some ⟨b,0,none⟩) (A++l::B).length c){us:List Value}{o:Nat}(I:o+us.length<=27)(V:∀u∈us,noU u)(F:l'.g=l.g)(hs:l'.sl=l.sl)(ht:l'.x.tr=l.x.tr)
  (h1:∀(w':World),Chg w w' (· =b)->∀(j:Nat)(q:Vp),j<us.length->l'.qs[o+j]? =some q->∃u,us[j]? =some u/\q.p w' u/\∀g,¬q.fp w' u g)(h2:∀j,j<o\/o+us.length<=j->l'.qs[j]? =l.qs[j]?):
  RPost w t v (A++l::B) (w.setCells b (A.length*27+o) us) v (A++l'::B):=by
 have G:Upd w b (w.setCells b (A.length*27+o) us):=co us w b _;have C:Chg w (w.setCells b (A.length*27+o) us) (· =b):=.upd (h.own b (by rw[H];simp[fpR,Cx])) G;refine h.setL H G (λxs K k2=>⟨j5 ((xs.drop (rlQ A).length).take l.qs.length) o us,?_,?_⟩) F hs ht
 ·have J:=k2.1;rw[mX]at J;simp only[Bh]at J;rw[<-setsL_mid _ _ _ _ _ (by rw[gE];exact I) no,pc];rw[H]at K⊢;exact xl us w xs _ K V
 ·rw[mX]at k2;exact zO k2.cut (by rw[gE,gE]) (by rw[gE];exact I) (h1 _ C) h2 (λq y hf hp=>by
   obtain⟨P,U⟩:=q.ch w _ _ y hp C (λg F=>absurd F (hf g));exact⟨P,λg F=>hf g (U g F)⟩)
variable{L:List Rl}
theorem RM.thaw{b n c i:Nat}(h:RM w t (.slice (some ⟨b,0,none⟩) n c) L)(hn:0<L.length):w.frozen? ⟨b,i,none⟩=false:=by
 obtain⟨xs,⟨⟨_,h2⟩,_⟩,_⟩:=h.row;rcases h2 with⟨e,_⟩ | ⟨C,cap,cur,e,_,F,_⟩
 ·cases e
 ·obtain rfl:b=C:=by injection e with e;injection e with e;injection e
  simp[Dl,F]
theorem uh{c:Nm}{i:Int}(h:OpS L c i):(i= -1/\qi (trR L) c)\/∃(A B:List Rl)(l:Rl),i=(A.length:Int)/\L=A++l::B/\l.c=c/\eO (trR L) c A.length l.x:=by
 rcases h with h | ⟨k,l,h1,h2,h3,G⟩
 ·exact .inl h
 ·obtain⟨A,B,C,F⟩:=d9 h2;subst F;exact .inr ⟨A,B,l,h1,C,h3,G⟩
set_option maxHeartbeats 2000000 in
theorem q_DetachR{v:Value}(h:RM w t v L)(c:Nm)(u:Int)(hn:L.length<=1000000):
  AC AB 92 #[ptB t,.string c,.int .i64 u] w λe w'=>∃v' L' F,e= .returned (.int .i64 F)/\RPost w t v L w' v' L'/\DetS (trR L) c u (trR L') F:=by
 have P:=uf h c hn;have J:=AA h;obtain⟨ad,Z,hv⟩:=h.form;obtain⟨n,hN⟩:∃n,n=L.length:=⟨_,rfl⟩;have Y:=AA hN;rw[<-hN]at hv hn;subst hv;have ak:(n:Int)<=1000000:=no
 have ab:=h.cell;clear h hN hn;go_enter Tryz.func92,Tryz.ntmps92
 go_upto_if 12 with(go_at_call 155;refine P.mono ?_;rintro e w1 ⟨i,rfl,hi,hw⟩;obtain rfl:=hw.symm;have HP:=AA (uh hi);clear P hi)
 rcases HP.out with⟨hi,hp⟩ | ⟨A,B,l,hi,hL,hc,hp⟩
 ·subst hi;have K:=AA (DetS.none (u:=u) hp);clear hp;go_wp2;go_ret;exact⟨_,L,6,rfl,.refl J.out (AF _ _),K.out⟩
 ·subst hi;obtain⟨k,U⟩:∃k,A.length=k:=⟨_,rfl⟩;rw[U];have I:L[k]? =some l:=by rw[hL,<-U,Bv (AE _),Df];rfl
  have aa:=(AX.1 I).1;have ac:(k:Int)<(n:Int):=by rw[Y.out];omega
  have q0:decide ((k:Int)<0)=false:=decide_eq_false no;obtain⟨b,c2,cs,e,V⟩:=J.out.at I;injection e with e1 _ e3;subst e1;subst e3;have ff:=V.fr;have fu:=V.un;have hz:w.frozen? ⟨b,k*27+3,none⟩=false:=J.out.thaw no;have C:=AA hL;have HK:=AA U;have G:=AA hp;have HC:=AA hc;clear V I aa hL U hp hc;by_cases g1:u<=l.x.fr
  ·have q1:decide (u<=l.x.fr)=true:=decide_eq_true g1;have K:=AA (DetS.time G.out (.inl g1));clear g1;go_wp2;go_ret;exact⟨_,L,17,rfl,.refl J.out (AF _ _),K.out⟩
  ·have q1:decide (u<=l.x.fr)=false:=decide_eq_false g1;by_cases g2:bC<u
   ·have q2:decide ((1099511627776:Int)<u)=true:=decide_eq_true g2;have K:=AA (DetS.time G.out (.inr g2));clear g1 g2;go_wp2;go_ret;exact⟨_,L,17,rfl,.refl J.out (AF _ _),K.out⟩
   ·have q2:decide ((1099511627776:Int)<u)=false:=decide_eq_false g2;have HG:=AA (And.intro g1 g2);clear g1 g2;go_wp2;go_ret;have hR:RPost w t (.slice (some ⟨b,0,none⟩) n Z) (A++l::B) (w.setCells b (A.length*27+3) [.int .i64 u]) (.slice (some ⟨b,0,none⟩) n Z) (A++ {l with x:= {l.x with un:=u}}::B):=
     RM.put (h:=by rw[<-C.out];exact J.out) (c:=Z) (by rw[Y.out,C.out]) (us:=[.int .i64 u]) (o:=3) Ad (λy hy n e=>by simp at hy;subst hy;cases e) rfl rfl rfl
      (λw' _ j q H hq=>by
       obtain rfl:j=0:=by simpa using H
       have:q= .val (.int .i64 u):=by
        have e:(some (Vp.val (.int .i64 u)):Option Vp)=some q:=hq;injection e with e;exact e.symm
       subst this;exact⟨_,rfl,⟨rfl,ck⟩,λ_ h=>h⟩)
      (λj H=>by
       rcases H with H | H
       ·match j,H with
        | 0,_=>rfl
        | 1,_=>rfl
        | 2,_=>rfl
       ·obtain⟨i,rfl⟩:∃i,j=i+4:=⟨j - 4,by simp at H;omega⟩;rfl)
    have hD:DetS (trR L) c u (trR (A++ {l with x:= {l.x with un:=u}}::B)) 0:=by
     rw[C.out,kC,kC,HC.out];exact .ok (x:=l.x) rfl G.out.2 (by have:=HG.out.1;omega) (by have:=HG.out.2;unfold bC at this⊢;omega)
    obtain rfl:=HK.out;obtain rfl:=C.out;obtain rfl:=Y.out;exact⟨_,_,0,rfl,hR,hD⟩
end
section
open Classical
theorem qH{X Y:List Nat}{o o':Option Nat}(h:(X++(o.toList++Y)).Nodup)(hb:∀b,o'=some b->o=some b\/b∉X++Y):(X++(o'.toList++Y)).Nodup:=by
 have h0:(X++Y).Nodup:=h.sublist ((List.Sublist.refl X).append (List.sublist_append_right _ _))
 cases o' with
 | none=>exact h0
 | some b=>
  rcases hb b rfl with e | e
  ·rw[e]at h;exact h
  ·show(X++b::Y).Nodup;exact(List.perm_middle.nodup_iff).2 (Bu.2 ⟨e,h0⟩)
abbrev Rl.setTr(l:Rl)(S':List St)(sl':Value):Rl:= {l with x:= {l.x with tr:=S'},sl:=sl'}
theorem RM.trkM{w w':World}{t:Nat}{v:Value}{A B:List Rl}{l:Rl}{S':List St}(h:RM w t v (A++l::B))(hM:TrkM rkT w l.g l.sl S' w'):∃sl',RPost w t v (A++l::B) w' v (A++l.setTr S' sl'::B):=by
 obtain⟨⟨sl',hS,hb⟩,J⟩:=hM;have Y:∀C∈A++l::B,C.g∈fpR t v (A++l::B)/\∀b,C.sl.ownBlock=some b->b∈fpR t v (A++l::B):=λC H=>
  ⟨Bf _ (AG.2 (.inr (Br.2 ⟨C,H,Ad⟩))),λb hb=>Bf _ (AG.2 (.inr (Br.2 ⟨C,H,by simp[hb]⟩)))⟩
 have V:l.g∈fpR t v (A++l::B):=(Y l Ad).1;have hc:Chg w w' (· =l.g):=⟨J.size,λg G hn=>J.block g G hn,λg G=>h.own g (by rw[show g=l.g from G];exact V)⟩;have e0:∀(C:Rl),fpR t v (A++C::B)=(t::(v.ownBlock.toList++(A.flatMap λl=>l.g::l.sl.ownBlock.toList))++ [C.g])++(C.sl.ownBlock.toList++B.flatMap λl=>l.g::l.sl.ownBlock.toList):=λC=>by simp[fpR]
 have I:=h.nd;rw[e0]at I;have K:∀g∈fpR t v (A++l::B),g<w.heap.size:=h.lt;have hX:∀b,w.heap.size<=b->b∉(t::(v.ownBlock.toList++(A.flatMap λl=>l.g::l.sl.ownBlock.toList))++ [l.g])++B.flatMap λl=>l.g::l.sl.ownBlock.toList:=λb hb P=>by
  have:=K b (by
   rw[e0];simp only[AG]at P⊢;rcases P with P | P
   ·exact .inl P
   ·exact .inr (.inr P))
  omega
 have Z:=qH I (o':=sl'.ownBlock) (λb e=>(hb b e).imp id (λk=>hX b k.1));have ab:t≠l.g:=λe=>cw ((BJ.1 I).1) (x:=t) Ad (by simp[e])
 have ac:∀b,v.ownBlock=some b->b≠l.g:=λb e1 e2=>cw ((BJ.1 I).1) (x:=b) (by simp[e1]) (by simp[e2])
 have F:∀C∈A++B,C.g≠l.g/\∀b,C.sl.ownBlock=some b->b≠l.g:=λC H=>by
  have key:∀b,b∈C.g::C.sl.ownBlock.toList->b≠l.g:=λb hb e=>by
   rcases AG.1 H with k | k
   ·exact cw ((BJ.1 I).1) (x:=b) (Bf _ (AG.2 (.inr (Br.2 ⟨C,k,hb⟩)))) (by simp[e])
   ·exact cw I (x:=b) (by simp[e]) (AG.2 (.inr (Br.2 ⟨C,k,hb⟩)))
  exact⟨key _ Ad,λb e=>key _ (by simp[e])⟩
 have aa:=(Vp.row stT S'.length (bB S')).fl w' _ hS.row;have U:∀g∈fpR t v (A++l.setTr S' sl'::B),g∈fpR t v (A++l::B)\/(w.heap.size<=g/\bw w' g):=λg G=>by
  rw[e0]at G⊢;simp only[AG,Option.mem_toList]at G⊢;rcases G with G | G | G
  ·exact .inl (.inl G)
  ·rcases hb g G with k | k
   ·exact .inl (.inr (.inl k))
   ·exact .inr k
  ·exact .inl (.inr (.inr G))
 refine⟨sl',⟨by rw[hc.blk t (K t (by simp[fpR])) ab];exact h.tr,?_,λC H=> ?_,by rw[e0];exact Z,λg G=> ?_⟩,⟨J.os,J.tape,J.output,J.size,λg G hn=>J.block g G (λe=>hn (by rw[show g=l.g from e];exact V))⟩,λg G=>(U g G).imp id (·.1)⟩
 ·obtain⟨xs,k1,k2⟩:=h.row;have e1:rlQ (A++l.setTr S' sl'::B)=rlQ (A++l::B):=by rw[mX,mX];rfl
  have e2:(A++l.setTr S' sl'::B).length=(A++l::B).length:=Ad
  rw[e1,e2];exact((Vp.ownr rlT 27 (A++l::B).length (rlQ (A++l::B))).ch w w' _ v ⟨xs,k1,k2⟩ hc (λg G=>ac g G)).1
 ·rcases AG.1 H with k | k
  ·exact(h.trk C (AG.2 (.inl k))).chg hc (F C (AG.2 (.inl k))).1 (F C (AG.2 (.inl k))).2
  ·rcases AS.1 k with rfl | k
   ·exact hS
   ·exact(h.trk C (by simp[k])).chg hc (F C (AG.2 (.inr k))).1 (F C (AG.2 (.inr k))).2
 ·by_cases e:g=l.g
  ·subst e;refine .mk' hS.blk (λk n J=> ?_)
   cases k with
   | zero=>simp at J;exact aa.2.2 n J
   | succ k=>simp at J
  ·rcases U g G with k | k
   ·exact(h.own g k).blk (hc.blk g (K g k) e) hc.size
   ·exact k.2
theorem plS_inv{L:List Rl}{c:Nm}{a i:Int}(h:PlS L c a i):(i= -1/\PlNo (trR L) c a)\/∃(A B:List Rl)(l:Rl),i=(A.length:Int)/\L=A++l::B/\l.c=c/\PlAt (trR L) c a A.length l.x:=by
 rcases h with h | ⟨k,l,h1,h2,h3,G⟩
 ·exact .inl h
 ·obtain⟨A,B,C,F⟩:=d9 h2;subst F;exact .inr ⟨A,B,l,h1,C,h3,G⟩
end
section
open Classical
theorem RPost.pre{w F G:World}{t:Nat}{v v':Value}{L L':List Rl}(hb:Bi w.heap.size w F)(h:RPost F t v L G v' L'):RPost w t v L G v' L':=
 ⟨h.rm,⟨h.kp.os.trans hb.os,h.kp.tape.trans hb.tape,h.kp.output.trans hb.output,AD hb.size h.kp.size,λk C hn=>(h.kp.block k (Bt C hb.size) hn).trans (hb.block k C)⟩,λg H=>(h.fp g H).imp id (λk=>AD hb.size k)⟩
set_option maxHeartbeats 400000 in
theorem q_SetR{w:World}{t:Nat}{v:Value}{L:List Rl}{c:Nm}{a:Int}{cs:List Value}(h:RM w t v L)(hn:L.length<=1000000)(hR:jO (lks (trR L) c))(hl:cs.length=21)(add:List St->List St×Int)
  (an:∀w' g sl S,(∃l∈L,S=l.x.tr)->Bi w.heap.size w w'->TrkS rkT w' g sl S->AC AB 156 #[ptB g,stV a cs] w' λe b0=>e= .returned (.int .i64 (add S).2)/\TrkM rkT w' g sl (add S).1 b0):
  AC AB 93 #[ptB t,.string c,stV a cs] w λe w'=>∃v' L' F,e= .returned (.int .i64 F)/\RPost w t v L w' v' L'/\SetS add (trR L) c a (trR L') F:=by
 obtain⟨w1,a6⟩:∃w1,w.alloc (.cells (.int .i64 a::cs).toArray 120)=w1:=⟨_,rfl⟩;have aq:Bi w.heap.size w w1:=by rw[<-a6];exact(AF _ _).alloc (AE _) _
 have I:w1.heap[w.heap.size]? =some (.cells (.int .i64 a::cs).toArray 120 (0,0)):=by rw[<-a6];exact Bm w _
 have a4:=mV (h.below aq) c a hn;generalize hB:w.heap.size=J at *;have a0:J<w1.heap.size:=(AZ.1 I).1;have bq:w1.cell? ⟨J,0,none⟩=some (.int .i64 a):=by rw[aH I];rfl
 have HM:=AA h;have a7:=AA aq;have ax:=AA I;have ap:=AA a0;have b1:=AA hB;have HR:=AA hR;have av:=AA an;have a9:=AA hl;obtain⟨ad,cp,hv⟩:=h.form;obtain⟨n,hN⟩:∃n,n=L.length:=⟨_,rfl⟩;have HN:=AA hN;rw[<-hN]at hv hn;subst hv;have ca:(n:Int)<=1000000:=no
 clear h hN hn aq I a0 hR an hl;go_enter Tryz.func93,Tryz.ntmps93
 go_upto_if 14 with(go_at_call 96;refine a4.mono ?_;rintro e Y ⟨i,rfl,hi,H⟩;have HW:=AA H;have HP:=AA (plS_inv hi);clear a4 hi H)
 have ar:Bi w.heap.size w Y:=by rw[hB];exact a7.out.trans (HW.out.mono (by have:=ap.out;omega))
 have P:=AA ar;have a2:=(HM.out.below ar).cell;clear ar;rcases HP.out with⟨hi,hp⟩ | ⟨A,B,l,hi,hL,hc,hp⟩
 ·subst hi;have HQ:=AA (SetS.none (add:=add) hp.tAt);clear hp;go_wp2;go_ret;exact⟨_,L,18,rfl,.refl HM.out P.out,HQ.out⟩
 ·subst hi;obtain⟨k,hk⟩:∃k,A.length=k:=⟨_,rfl⟩;rw[hk];have V:L[k]? =some l:=by rw[hL,<-hk,Bv (AE _),Df];rfl
  have a3:=(AX.1 V).1;have b9:(k:Int)<(n:Int):=by rw[HN.out];omega
  have q0:decide ((k:Int)<0)=false:=decide_eq_false no;have ak:=hp.tAt HR.out;have aa:=HM.out.below P.out;obtain⟨b,c2,b8,e,AT⟩:=aa.at V;injection e with e1 e2 e3;subst e1;subst e3;clear e2;have fst:=AT.st;have ay:=AT.tp;have U:=AA hL;have HK:=AA hk;have bi:=AA ak;have HC:=AA hc;have b2:=AA V;have G:∀j,Y.cell? ⟨J,j,none⟩=w1.cell? ⟨J,j,none⟩:=λj=>BZ (HW.out.block J ap.out)
  have bb:=AA aa
  cases hx:l.x.st with
  | true=>
   rw[hx]at fst;have HQ:=AA (SetS.still (add:=add) ak hx);clear AT V a3 hL hk hp hc ak hx G aa;go_wp2;go_ret;exact⟨_,L,10,rfl,.refl HM.out P.out,HQ.out⟩
  | false=>
   rw[hx]at fst;have HX:=AA hx;have a5:Y.rangeAt J 0 (.int .i64 a::cs):=λj v hv=>by rw[G,aH ax.out,A5];simpa using hv
   have bz:(AB.info? 120).map (·.size)=some (.int .i64 a::cs:List Value).length:=by rw[Bg,a9.out];kernel_rfl
   clear AT V a3 hL hk hp hc ak hx G aa;have ab:RM Y.drew t (.slice (some ⟨b,0,none⟩) n cp) (A++l::B):=by rw[<-U.out];exact bb.out.below (AF _ _).drew
   have am:=av.out Y.drew l.g l.sl l.x.tr ⟨l,(by rw[U.out];simp),rfl⟩ (by rw[<-hB];exact P.out.drew) (ab.trk l Ad);have HA:=AA am;have be:=AA (show∀w3,TrkM rkT Y.drew l.g l.sl (add l.x.tr).1 w3->w3.cell? ⟨t,0,none⟩=Y.cell? ⟨t,0,none⟩/\(∀j,w3.cell? ⟨b,j,none⟩=Y.cell? ⟨b,j,none⟩)/\(∀j,w3.cell? ⟨J,j,none⟩=Y.cell? ⟨J,j,none⟩)/\∃v' L' F,Ending.returned (.int .i64 (add l.x.tr).2)= .returned (.int .i64 F)/\RPost w t (.slice (some ⟨b,0,none⟩) n cp) L w3 v' L'/\SetS add (trR L) c a (trR L') F from λw3 hM=>by
    have ac:=ab.nd;have au:=HM.out.lt;have bt:l.g∈fpR t (.slice (some ⟨b,0,none⟩) n cp) L:=by rw[U.out];exact Bf _ (AG.2 (.inr (Br.2 ⟨l,Ad,Ad⟩)))
    have bp:b∈fpR t (.slice (some ⟨b,0,none⟩) n cp) L:=by simp[fpR,Cx]
    have bO:t∈fpR t (.slice (some ⟨b,0,none⟩) n cp) L:=by simp[fpR]
    have ao:w.heap.size<=Y.heap.size:=P.out.size;have a1:J<Y.heap.size:=Bt ap.out HW.out.size;have n1:t≠l.g:=λe=>by
     unfold fpR at ac;exact(Bu.1 ac).1 (by rw[e];exact AG.2 (.inr (Br.2 ⟨l,Ad,Ad⟩)))
    have n2:b≠l.g:=λe=>by
     unfold fpR at ac;exact cw (Bu.1 ac).2 (x:=b) (by simp[Cx]) (Br.2 ⟨l,Ad,by simp[e]⟩)
    have n3:J≠l.g:=λe=>by have:=au _ bt;omega
    refine⟨BZ (hM.kept.block t (Bt (au _ bO) ao) n1),λj=>BZ (hM.kept.block b (Bt (au _ bp) ao) n2),λj=>BZ (hM.kept.block J a1 n3),?_⟩;obtain⟨sl',hP⟩:=ab.trkM hM;refine⟨_,_,_,rfl,RPost.pre P.out.drew (by rw[U.out];exact hP),?_⟩;rw[kC,HC.out];exact .ok (by rw[U.out,kC,HC.out]) bi.out HX.out)
   clear ab am;generalize l.g=lg at *;generalize (add l.x.tr).2=F at *;go_upto_region 6 with(fail)
   refine Eo (S:=λw'=>w'.cell? ⟨t,0,none⟩=some (.slice (some ⟨b,0,none⟩) n cp)/\w'.cell? ⟨b,k*27+26,none⟩=some (ptB lg)/\w'.rangeAt J 0 (.int .i64 a::cs)) Aa ⟨by simpa using a2,by simpa using ay,by simpa using a5⟩ (λC=> ?_);refine BQ (i:=8) (v:=stV a cs) rfl Aa Aa Aa (λ_ _ _ h=>h) (FK Af _ _ rfl J 0 rfl _ _ (λw H=>H.2.2) Eh rfl bz) C ?_;refine BQ (i:=0) (v:=ptB t) rfl Aa Aa Aa (λ_ _ _ h=>h) (AR ⟨Af,λw H=>Af⟩) C ?_;refine BQ (i:=1) (v:=ptB t) rfl Aa Aa Aa (λ_ _ _ h=>h) (AR ⟨Af,λw H=>Ah⟩) C ?_;refine BQ (i:=2) (v:=ptB t) rfl Aa Aa Aa (λ_ _ _ h=>h) (AR ⟨Af,λw H=>Ah⟩) C ?_;refine BQ (i:=3) (v:=.slice (some ⟨b,0,none⟩) n cp) rfl Aa Aa Aa (λ_ _ _ h=>h) (AR ⟨Af,λw H=>by have:=H.1;go_simp⟩) C ?_;refine BQ (i:=4) (v:=.int .i64 (k:Int)) rfl Aa Aa Aa (λ_ _ _ h=>h) (AR ⟨Af,λw H=>Af⟩) C ?_;refine BQ (i:=5) (v:=.pointer (some ⟨b,k*27,none⟩)) rfl Aa Aa Aa (λ_ _ _ h=>h) (AR ⟨Af,λw H=>Ah⟩) C ?_;refine BQ (i:=6) (v:=.pointer (some ⟨b,k*27+26,none⟩)) rfl Aa Aa Aa (λ_ _ _ h=>h) (AR ⟨Af,λw H=>Ah⟩) C ?_;refine BQ (i:=7) (v:=ptB lg) rfl Aa Aa Aa (λ_ _ _ h=>h) (AR ⟨Af,λw H=>by have:=H.2.1;go_simp⟩) C ?_;refine Fr (rs:=[9]) Aa Ad ?_;refine Fj rfl (λK hK=> ?_) Fk;go_simp;go_at_call 156
   refine HA.out.mono ?_;rintro e w3 ⟨rfl,hM⟩;obtain⟨e1,e2,e3,hq⟩:=be.out _ hM;have HQ:=AA hq;refine hK.out _ _ ⟨e1.trans a2,(e2 _).trans ay,λj v hv=>(e3 _).trans (a5 j v hv)⟩ (λZ=> ?_);clear hK K hM e1 e2 e3 hq C;refine BQ (i:=10) (v:=.int .i64 F) rfl Aa Aa Aa (λ_ _ _ h=>h) (AR ⟨Af,λw H=>Af⟩) Z ?_;refine Ep Aa ?_ _;go_wp2;go_ret;exact HQ.out
end
section
open Classical
variable{w:World}{t b n c:Nat}
theorem RM.blk{L:List Rl}(h:RM w t (.slice (some ⟨b,0,none⟩) n c) L)(hn:0<L.length):∃cur T,w.heap[b]? =some (.cells cur T (0,0)):=by
 obtain⟨xs,⟨⟨_,h2⟩,_⟩,_⟩:=h.row;rcases h2 with⟨e,_⟩ | ⟨C,cap,cur,e,_,F,_⟩
 ·cases e
 ·obtain rfl:b=C:=by injection e with e;injection e with e;injection e
  exact⟨_,_,F⟩
theorem RM.thr{L:List Rl}{k:Nat}{l:Rl}(h:RM w t (.slice (some ⟨b,0,none⟩) n c) L)(H:L[k]? =some l)(u:Value):(w.setCell ⟨b,k*27+4,none⟩ u).there b (k*27+5) 21:=λj V=>by
 have J:=(AX.1 H).1;obtain⟨cur,T,G⟩:=h.blk no;obtain⟨P,U,cs,e,F⟩:=h.at H;injection e with C;injection C with C;injection C with C;subst C;have h3:=CZ w b (k*27+4) cur T u G;have hl:=F.len;have I:=F.rg (5+j) _ (AJ no);rw[aH G]at I;have K:=(AZ.1 I).1;refine⟨?_,by simp[Dl,h3]⟩;rw[aH h3,Array.getElem?_eq_getElem (by simp;omega)];rfl
theorem zP{A B:List Rl}{l:Rl}{p:Pq}{cs:List Value}(h:RM w t (.slice (some ⟨b,0,none⟩) n c) (A++l::B))(hn:n=(A++l::B).length)(hv:aR w (.agg cs.toArray) p):
  RPost w t (.slice (some ⟨b,0,none⟩) n c) (A++l::B) ((w.setCell ⟨b,A.length*27+4,none⟩ (.bool true)).setCells b (A.length*27+5) cs) (.slice (some ⟨b,0,none⟩) n c) (A++ {l with x:= {l.x with st:=true,po:=p}}::B):=by
 obtain⟨J,G,hc⟩:=hv;have G:cs=J:=by injection G with G;simpa using G
 subst G;have C:cs.length=21:=aE hc;subst hn;refine RM.put (h:=h) (c:=c) rfl (us:=.bool true::cs) (o:=4) (by simp[C]) (λy hy m e=> ?_) rfl rfl rfl (λw' hk j q H I=> ?_) (λj H=> ?_)
 ·rcases AS.1 hy with hy | hy
  ·subst hy;cases e
  ·obtain⟨j,H,Z⟩:=BK hy;obtain⟨q,I⟩:∃q,(tP [p.rot.w.raw,p.rot.x.raw,p.rot.y.raw,p.rot.z.raw,p.pos.x.raw,p.pos.y.raw,p.pos.z.raw])[j]? =some q:=⟨_,AJ (by show j<21;omega)⟩;obtain⟨v,F,k2,_⟩:=iQ hc I;rw[AJ H,Z]at F;injection F with F;subst F;exact(q.fl _ _ k2).2.2 m e
 ·cases j with
  | zero=>
   have:q= .val (.bool true):=by
    have e:(some (Vp.val (.bool true)):Option Vp)=some q:=I;injection e with e;exact e.symm
   subst this;exact⟨_,rfl,⟨rfl,bK⟩,λ_ h=>h⟩
  | succ i=>
   have hi:i<21:=by simp only[Bg,C]at H;omega
   have e:({l with x:= {l.x with st:=true,po:=p}}:Rl).qs=[.val (.string l.c),.val (.string l.x.par),.val (.int .i64 l.x.fr),.val (.int .i64 l.x.un),.val (.bool true)]++(frs p.cs++ [.val (ptB l.g)]):=rfl;rw[e,Bv (by simp;omega),Bz (by show 4+(i+1) - 5<21;omega),show 4+(i+1) - [Vp.val (.string l.c),.val (.string l.x.par),.val (.int .i64 l.x.fr),.val (.int .i64 l.x.un),.val (.bool true)].length=i by simp;omega]at I;have U:(tP [p.rot.w.raw,p.rot.x.raw,p.rot.y.raw,p.rot.z.raw,p.pos.x.raw,p.pos.y.raw,p.pos.z.raw])[i]? =some q:=I;obtain⟨v,F,k2,k3⟩:=iQ hc U;obtain⟨k4,k5⟩:=q.ch _ _ _ v k2 hk (λg P=>absurd P (k3 g));exact⟨v,F,k4,λg P=>k3 g (k5 g P)⟩
 ·rcases H with K | K
  ·match j,K with
   | 0,_=>rfl
   | 1,_=>rfl
   | 2,_=>rfl
   | 3,_=>rfl
  ·obtain⟨i,rfl⟩:∃i,j=26+i:=⟨j - 26,by simp only[Bg,C]at K;omega⟩;have V:∀x:Pq,(frs x.cs++ [Vp.val (ptB l.g)])[21+i]? =[Vp.val (ptB l.g)][i]? :=λx=>by
    rw[Bv (by show 21<=21+i;omega)];show [Vp.val (ptB l.g)][21+i - 21]? =_;rw[Ez]
   have Y:∀(a b c d e:Vp)(M:List Vp),(a::b::c::d::e::M)[26+i]? =M[21+i]? :=λa b c d e M=>by
    rw[show 26+i=(21+i)+1+1+1+1+1 by omega];rfl
   show(lnQ _ _)[_]? =(lnQ _ _)[_]?;unfold lnQ;rw[Y,Y,V,V]
end
section
open Classical
set_option maxHeartbeats 400000 in
theorem q_FixedR{w:World}{t:Nat}{v:Value}{L:List Rl}{c:Nm}{cs:List Value}{p:Pq}{ok:Bool}(h:RM w t v L)(hn:L.length<=1000000)(hG:∀l∈L,l.x.tr.length<=64)(hv:aR w (.agg cs.toArray) p)
  (ay:∀w',Bi w.heap.size w w'->AC AB 158 #[.agg cs.toArray] w' λe cx=>e= .returned (.bool ok)/\Bi w'.heap.size w' cx):
  AC AB 94 #[ptB t,.string c,.agg cs.toArray] w λe w'=>∃v' L' av,e= .returned (.int .i64 av)/\RPost w t v L w' v' L'/\FixS ok p (trR L) c (trR L') av:=by
 obtain⟨I,cn⟩:∃I,w.alloc (.cells cs.toArray 39)=I:=⟨_,rfl⟩;have aq:Bi w.heap.size w I:=by rw[<-cn];exact(AF _ _).alloc (AE _) _
 have ab:I.heap[w.heap.size]? =some (.cells cs.toArray 39 (0,0)):=by rw[<-cn];exact Bm w _
 have cb:=uf (h.below aq) c hn;have Y:cs.length=21:=by
  obtain⟨a1,U,hc⟩:=hv;have U:cs=a1:=by injection U with U;simpa using U
  subst U;exact aE hc
 have ca:cs.toArray.all (·.oneCell')=true:=by
  obtain⟨a1,U,hc⟩:=hv;have U:cs=a1:=by injection U with U;simpa using U
  subst U;exact all_oneCell_toArray (eT hc)
 generalize hB:w.heap.size=F at *;have b1:F<I.heap.size:=(AZ.1 ab).1;have a7:(AB.info? 39).map (·.size)=some cs.length:=by rw[Y];kernel_rfl
 have HM:=AA h;have am:=AA aq;have au:=AA ab;have P:=AA b1;have HV:=AA hv;have bt:=AA ay;have HG:=AA hG;have cq:=AA Y;obtain⟨ad,cp,cm⟩:=h.form;obtain⟨n,hN⟩:∃n,n=L.length:=⟨_,rfl⟩;have HN:=AA hN;rw[<-hN]at cm hn;subst cm;have c8:(n:Int)<=1000000:=no
 have a4:=h.below (show Bi w.heap.size w I by rw[hB];exact aq);have bp:=AA a4;have c6:=a4.cell;clear h hN hn aq ab b1 ay hG Y hv a4;go_enter Tryz.func94,Tryz.ntmps94
 go_upto_if 12 with(go_at_call 155;refine cb.mono ?_;rintro e w2 ⟨i,rfl,hi,hw⟩;obtain rfl:=hw.symm;have HP:=AA (uh hi);clear cb hi)
 rcases HP.out with⟨hi,hp⟩ | ⟨A,B,l,hi,hL,hc,hp⟩
 ·subst hi;have HQ:=AA (FixS.none (ok:=ok) (p:=p) hp);clear hp;go_wp2;go_ret;exact⟨_,L,18,rfl,.refl HM.out (by rw[hB];exact am.out),HQ.out⟩
 ·subst hi;obtain⟨k,hk⟩:∃k,A.length=k:=⟨_,rfl⟩;rw[hk];have H:L[k]? =some l:=by rw[hL,<-hk,Bv (AE _),Df];rfl
  have a3:=(AX.1 H).1;have c7:(k:Int)<(n:Int):=by rw[HN.out];omega
  have q0:decide ((k:Int)<0)=false:=decide_eq_false no;obtain⟨b,c2,c1,e,AT⟩:=bp.out.at H;injection e with e1 e2 e3;subst e1;subst e3;clear e2;have fst:=AT.st;have c5:=AT.tp;have an:=AA hL;have HK:=AA hk;have bq:=AA hp;have HC:=AA hc;have a0:=AA H
  cases hx:l.x.st with
  | true=>
   rw[hx]at fst;have HQ:=AA (FixS.state (ok:=ok) (p:=p) hp (.inl hx));clear AT H a3 hL hk hp hc hx;go_wp2;go_ret;exact⟨_,L,10,rfl,.refl HM.out (by rw[hB];exact am.out),HQ.out⟩
  | false=>
   rw[hx]at fst;have HX:=AA hx;have Z:=k_rLen (bp.out.trk l (A0 H))
   change AC AB 157 #[ptB l.g] I _ at Z
   by_cases ht:l.x.tr=[]
   ·have b9:AC AB 157 #[ptB l.g] I λe w'=>e= .returned (.int .i64 0)/\Bi I.heap.size I w':=by rw[ht]at Z;exact Z
    have HT:=AA ht;clear AT H a3 hL hk hp hc hx Z ht;go_upto_if 32 with(go_at_call 157;refine b9.mono ?_;rintro e w2 ⟨rfl,k2⟩;have K2:=AA k2;clear k2)
    have b2:Bi w.heap.size w w2:=by rw[hB];exact am.out.trans (K2.out.mono (by have:=P.out;omega))
    have ax:w2.rangeAt F 0 cs:=λj v hv=>by rw[K2.out.cell (p:=⟨F,_,none⟩) P.out,aH au.out,A5];simpa using hv
    have J:=AA b2;clear b2;have bi:=AA ax;clear ax;go_upto_region 6 with(fail)
    refine Bn ?_;refine wpList_load_mid rfl _ _ rfl F 0 rfl cs _ bi.out CC rfl a7 ?_;have ak:=bt.out w2 (by rw[<-hB];exact J.out);go_upto_if 35 with(go_at_call 158;refine ak.mono ?_;rintro e w3 ⟨rfl,k3⟩;have K3:=AA k3;clear k3 ak)
    cases ok with
    | false=>
     have HQ:=AA (FixS.range (ok:=false) (p:=p) bq.out HX.out HT.out rfl);go_wp2;go_ret;exact⟨_,L,4,rfl,.refl HM.out (J.out.trans (K3.out.mono J.out.size)),HQ.out⟩
    | true=>
     have a2:Bi w.heap.size w w3:=J.out.trans (K3.out.mono J.out.size);have be:=AA a2;have aa:=HM.out.below a2;have b8:=aa.cell;obtain⟨b',c3,c4,e',bb⟩:=aa.at a0.out;injection e' with e1 e2 e3;injection e1 with e1;injection e1 with e1;subst e1;clear e2 e3;have bz:=bb.st;rw[HX.out]at bz;have hz:w3.frozen? ⟨b,k*27+4,none⟩=false:=aa.thaw (by have:=(AX.1 a0.out).1;omega);have ao:=AA aa;clear a2 aa bb;go_upto_region 9 with(fail)
     have a6:=ca;have cc:(AB.info? 39).map (·.size)=some cs.toArray.size:=by rw[a7,Cb]
     have cr:=AA (show RPost w t (.slice (some ⟨b,0,none⟩) n cp) L ((w3.drew.setCell ⟨b,k*27+4,none⟩ (.bool true)).setCells b (k*27+5) cs) (.slice (some ⟨b,0,none⟩) n cp) (A++ {l with x:= {l.x with st:=true,po:=p}}::B)by
      have hd:RM w3.drew t (.slice (some ⟨b,0,none⟩) n cp) (A++l::B):=by rw[<-an.out];exact ao.out.below (AF _ _).drew
      have:=zP hd (by rw[HN.out,an.out]) (HV.out.mono be.out.drew);rw[HK.out]at this;exact RPost.pre be.out.drew (by rw[an.out];exact this))
     have HF:=AA (show FixS true p (trR L) c (trR (A++ {l with x:= {l.x with st:=true,po:=p}}::B)) 0 by
      rw[an.out,kC,kC,HC.out];exact .ok rfl bq.out.2 HX.out HT.out rfl)
     have a5:=ao.out.nd;have cv:=ao.out.lt;have cd:t≠b:=λe=>by
      unfold fpR at a5;exact(Bu.1 a5).1 (by rw[e];simp[Cx])
     have b0:F≠b:=λe=>by
      have:=HM.out.lt b (by simp[fpR,Cx]);omega
     obtain⟨G,ar⟩:∃G,w3.setCell ⟨b,k*27+4,none⟩ (.bool true)=G:=⟨_,rfl⟩;have a9:Upd w3 b G:=by rw[<-ar];exact Upd.cell _ _ _ _
     have V:G.drew.cell? ⟨t,0,none⟩=some (.slice (some ⟨b,0,none⟩) n cp):=(BZ (w:=w3) (w':=G) (a9.block t cd)).trans b8;have bO:w3.heap[F]? =I.heap[F]? :=by
      rw[(K3.out.block F (Bt P.out K2.out.size)),K2.out.block F P.out]
     have ac:G.drew.rangeAt F 0 cs:=λj v hv=>by
      have e1:G.drew.heap[F]? =I.heap[F]? :=(a9.block F b0).trans bO;rw[BZ (w:=I) (w':=G.drew) e1,aH au.out,A5];simpa using hv
     have cl:G.drew.there b (k*27+5) cs.toArray.size:=by
      rw[Cb,cq.out,<-ar];exact ao.out.thr a0.out _
     have HS:=AA (show∀w5,w5=G.drew.setCells b (k*27+5) cs->w5.cell? ⟨t,0,none⟩=some (.slice (some ⟨b,0,none⟩) n cp)/\w5.rangeAt F 0 cs from λw5 e=>by
      have u:=co cs G.drew b (k*27+5);rw[<-e]at u;exact⟨(BZ (w:=G.drew) (w':=w5) (u.block t cd)).trans V,λj v hv=>(BZ (w:=G.drew) (w':=w5) (u.block F b0)).trans (ac j v hv)⟩)
     have cu:=AA (show RPost w t (.slice (some ⟨b,0,none⟩) n cp) L (G.drew.setCells b (k*27+5) cs) (.slice (some ⟨b,0,none⟩) n cp) (A++ {l with x:= {l.x with st:=true,po:=p}}::B)by rw[<-ar];exact cr.out);clear a5 cv a9 bO;rw[ar];refine Eo (S:=λw'=>w'.cell? ⟨t,0,none⟩=some (.slice (some ⟨b,0,none⟩) n cp)/\w'.rangeAt F 0 cs) Aa ⟨V,ac⟩ (λC=> ?_);refine BQ (i:=5) (v:=.agg cs.toArray) rfl Aa Aa Aa (λ_ _ _ h=>h) (FK Af _ _ rfl F 0 rfl _ _ (λw hw=>hw.2) CC rfl a7) C ?_;refine BQ (i:=0) (v:=ptB t) rfl Aa Aa Aa (λ_ _ _ h=>h) (AR ⟨Af,λw hw=>Af⟩) C ?_;refine BQ (i:=1) (v:=ptB t) rfl Aa Aa Aa (λ_ _ _ h=>h) (AR ⟨Af,λw hw=>Ah⟩) C ?_;refine BQ (i:=2) (v:=ptB t) rfl Aa Aa Aa (λ_ _ _ h=>h) (AR ⟨Af,λw hw=>Ah⟩) C ?_;refine BQ (i:=3) (v:=.slice (some ⟨b,0,none⟩) n cp) rfl Aa Aa Aa (λ_ _ _ h=>h) (AR ⟨Af,λw hw=>by have:=hw.1;go_simp⟩) C ?_;refine BQ (i:=4) (v:=.int .i64 (k:Int)) rfl Aa Aa Aa (λ_ _ _ h=>h) (AR ⟨Af,λw hw=>Af⟩) C ?_;refine BQ (i:=6) (v:=.pointer (some ⟨b,k*27,none⟩)) rfl Aa Aa Aa (λ_ _ _ h=>h) (AR ⟨Af,λw hw=>Ah⟩) C ?_;refine BQ (i:=7) (v:=.pointer (some ⟨b,k*27+5,none⟩)) rfl Aa Aa Aa (λ_ _ _ h=>h) (AR ⟨Af,λw hw=>Ah⟩) C ?_;refine Fr (rs:=[8]) Aa Ad ?_;refine Fj rfl (λK hK=> ?_) Fk;rw[if_pos Af];have key:∀(op:Oper)(a:Act)(Q:Exit->Act->World->Prop),op.op= .store 39 (.tmp 50) (.tmp 48)->a.eval (.tmp 50)= .pointer (some ⟨b,k*27+5,none⟩)->a.eval (.tmp 48)= .agg cs.toArray->K (a.put op.dst undef) (G.drew.setCells b (k*27+5) cs)->op.wp AB a G.drew K Q:=λop a Q ho hx hy h=>wp_store_mid 39 (.tmp 50) (.tmp 48) ho b (k*27+5) cs.toArray hx hy cl cc a6 h
     refine key _ _ _ ?_ ?_ ?_ ?_
     ·rfl
     ·go_simp
     ·go_simp
     refine hK.out _ _ (HS.out _ rfl) (λap=> ?_);refine Ep Aa ?_ _;clear key hK K C ap cl V ac;go_wp2;go_ret;exact⟨_,_,0,rfl,cu.out,HF.out⟩
   ·have cz:(0:Int)<(l.x.tr.length:Int):=by have:=List.length_pos_iff.2 ht;omega
    have HQ:=AA (FixS.state (ok:=ok) (p:=p) hp (.inr ht));clear AT H a3 hL hk hp hc hx ht;generalize (l.x.tr.length:Int)=m at *;go_wp2_with (go_at_call 157;refine Z.mono ?_;rintro e w2 ⟨rfl,k2⟩;have K2:=AA k2;clear k2)
    go_ret;exact⟨_,L,10,rfl,.refl HM.out (by rw[hB];exact am.out.trans (K2.out.mono (by have:=P.out;omega))),HQ.out⟩
end
section
open Classical
theorem RM.push{w J P:World}{t:Nat}{v v':Value}{L:List Rl}{l:Rl}{xs news:List Value}(h:RM w t v L)(hb:Bi w.heap.size w J)(hx:aX J rlT 27 v L.length xs)(ax:aO J (rlQ L) xs)
  (hT:TrkS rkT J l.g l.sl l.x.tr)(U:w.heap.size<=l.g)(hs:∀b,l.sl.ownBlock=some b->w.heap.size<=b)(og:∀g∈l.g::l.sl.ownBlock.toList,bw J g)(aq:aO J l.qs news)
  (k2:J.grownBy P v.ownBlock)(k3:∀g,v'.ownBlock=some g->v.ownBlock=some g\/J.heap.size<=g)(k4:aX P rlT 27 v' (L.length+1) (xs++news)):
  RPost w t v L (P.setCell ⟨t,0,none⟩ v') v' (L++ [l]):=by
 have h1:=h.below hb;have ak:=h.nd;unfold fpR at ak;obtain⟨nt,ay⟩:=Bu.1 ak;have G:=h.lt;have I:t∈fpR t v L:=by simp[fpR]
 have K:∀g,v.ownBlock=some g->g∈fpR t v L:=λg e=>by simp[fpR,e]
 have am:∀H∈L,∀g∈H.g::H.sl.ownBlock.toList,g∈fpR t v L:=λH F g U=>Bf _ (AG.2 (.inr (Br.2 ⟨H,F,U⟩)))
 have Y:=hb.size;have tv:∀g,v.ownBlock=some g->g≠t:=λg e e2=>nt (by rw[<-e2];simp[e])
 have u:=Upd.cell P t 0 v';have Z:∀g,g<J.heap.size->g≠t->v.ownBlock≠some g->(P.setCell ⟨t,0,none⟩ v').heap[g]? =J.heap[g]? :=λg U ht hv=>(u.block g ht).trans (k2.block g U (λe=>hv e.symm))
 have V:J.heap.size<=(P.setCell ⟨t,0,none⟩ v').heap.size:=by rw[u.size];exact k2.size
 have hc:Chg J (P.setCell ⟨t,0,none⟩ v') (λg=>g=t\/v.ownBlock=some g):=⟨V,λg U hn=>Z g U (λe=>hn (.inl e)) (λe=>hn (.inr e)),λg U=>by
  rcases U with e | e
  ·rw[e];exact h1.own t I
  ·exact h1.own g (K g e)⟩
 have ar:P.heap[t]? =some (.cells #[v] rrT (0,0)):=by rw[k2.block t (Bt (G t I) Y) (λe=>tv t e.symm rfl)];exact h1.tr
 have an:(P.setCell ⟨t,0,none⟩ v').heap[t]? =some (.cells #[v'] rrT (0,0)):=CZ P t 0 #[v] rrT v' ar;have ao:∀g,v'.ownBlock=some g->g≠t:=λg e=>by
  rcases k3 g e with k | k
  ·exact tv g k
  ·have:=G t I;omega
 have hZ:∀g∈l.g::l.sl.ownBlock.toList,w.heap.size<=g/\g<J.heap.size:=λg C=>⟨by
  rcases AS.1 C with e | e
  ·rw[e];exact U
  ·exact hs g Av,(og g C).1⟩
 have ab:∀H∈L,∀g∈H.g::H.sl.ownBlock.toList,¬(g=t\/v.ownBlock=some g):=λH F g C e=>by
  have hm:g∈L.flatMap λl=>l.g::l.sl.ownBlock.toList:=Br.2 ⟨H,F,C⟩
  rcases e with e | e
  ·exact nt (by rw[<-e];exact AG.2 (.inr hm))
  ·exact cw ay (x:=g) (by simp[e]) hm
 have ac:∀g∈l.g::l.sl.ownBlock.toList,¬(g=t\/v.ownBlock=some g):=λg C e=>by
  have:=(hZ g C).1;rcases e with e | e
  ·have:=G t I;omega
  ·have:=G g (K g e);omega
 have aa:fpR t v' (L++ [l])=(t::(v'.ownBlock.toList++L.flatMap λl=>l.g::l.sl.ownBlock.toList))++(l.g::l.sl.ownBlock.toList):=by simp[fpR]
 obtain⟨ad,cc,au⟩:=cL k4.1;refine⟨⟨an,⟨xs++news,?_,?_⟩,λH F=> ?_,?_,λg C=> ?_⟩,⟨(u.os.trans k2.os).trans hb.os,(u.tape.trans k2.tape).trans hb.tape,(u.output.trans k2.output).trans hb.output,AD Y V,λk hk hn=>(Z k (Bt hk Y) (λe=>hn (e▸I)) (λe=>hn (K k e))).trans (hb.block k hk)⟩,λg C=> ?_⟩
 ·rw[Bh];exact k4.keep (λg e=>u.block g (ao g e))
 ·rw[aa6,show rlQ [l]=l.qs from List.append_nil _];exact(ax.chg hc).append (aq.chg hc)
 ·rcases AG.1 F with k | k
  ·exact(h1.trk H k).chg hc (ab H k _ Ad) (λb e=>ab H k b (by simp[e]))
  ·obtain rfl:H=l:=by simpa using k
   exact hT.chg hc (ac _ Ad) (λb e=>ac b (by simp[e]))
 ·rw[aa];have n1:(([t]:List Nat)++(v'.ownBlock.toList++L.flatMap λl=>l.g::l.sl.ownBlock.toList)).Nodup:=qH (X:=[t]) (o:=v.ownBlock) ak (λb e=>(k3 b e).imp id (λk hm=>by
   have:b∈fpR t v L:=by
    rcases AG.1 hm with e | e
    ·obtain rfl:b=t:=by simpa using e
     exact I
    ·exact Bf _ (AG.2 (.inr e))
   have:=G b this;omega))
  refine BJ.2 ⟨n1,?_,λa ha b ap e=> ?_⟩
  ·refine Bu.2 ⟨λhm=>hT.ne l.g (by simpa using hm) rfl,?_⟩;cases l.sl.ownBlock<;>simp
  ·subst e;obtain⟨z1,z2⟩:=hZ a ap;rcases AS.1 ha with e | e
   ·have:=G t I;omega
   ·rcases AG.1 e with e | e
    ·rcases k3 a Av with k | k
     ·have:=G a (K a k);omega
     ·omega
    ·have:=G a (Bf _ (AG.2 (.inr e)));omega
 ·rw[aa]at C;rcases AG.1 C with e | e
  ·rcases AS.1 e with e | e
   ·rw[e];refine .mk' an (λk n hk=> ?_)
    cases k with
    | zero=>simp at hk;rw[au]at hk;cases hk
    | succ k=>simp at hk
   ·rcases AG.1 e with e | e
    ·have e:v'.ownBlock=some g:=by simpa using e
     exact(k4.2 g e).x.blk (u.block g (ao g e)) (by rw[u.size];exact AE _)
    ·obtain⟨H,F,e⟩:=Br.1 e;have av:=ab H F g e;exact(h1.own g (am H F g e)).blk (hc.blk g (Bt (G g (am H F g e)) Y) av) V
  ·exact(og g e).blk (hc.blk g (og g e).1 (ac g e)) V
 ·rw[aa]at C;rcases AG.1 C with e | e
  ·rcases AS.1 e with e | e
   ·exact .inl (by rw[e];exact I)
   ·rcases AG.1 e with e | e
    ·rcases k3 g Av with k | k
     ·exact .inl (K g k)
     ·exact .inr no
    ·exact .inl (Bf _ (AG.2 (.inr e)))
  ·exact .inr (hZ g e).1
end
section
variable {w:World} {g:Nat} {sl:Value} {S:List St}
theorem zQ{P:Program}{fn:Func}{p q u:Tmp}{ty:TypeId}(h:fn.results=#[.cell p ty,.cell q ty,.tmp u])(tmps:Array Value)(w:World)(g f:Nat)(t t':TypeId)(cs C:Array Value)(d:TypeDesc)
  (hp:tmps.getD p undef= .pointer (some ⟨g,0,none⟩))(F:tmps.getD q undef= .pointer (some ⟨f,0,none⟩))(I:w.heap[g]? =some (.cells cs t (0,0)))(hf:w.heap[f]? =some (.cells C t' (0,0)))
  (H:P.underlying ty=some d)(G:(match d with | .struct _ | .array _ _=>true | _=>false)=true)(hi:(P.info? ty).map (·.size)=some cs.size)(J:(P.info? ty).map (·.size)=some C.size):
  (results fn tmps).run P w= .ok (.tuple #[.agg cs,.agg C,tmps.getD u undef]) w:=by
 have hp:tmps[p]?.getD undef= .pointer (some ⟨g,0,none⟩):=by simpa using hp
 have F:tmps[q]?.getD undef= .pointer (some ⟨f,0,none⟩):=by simpa using F
 simp only[results,h];simp[AH,Result.andThen,hp,F,asAddr,run_loadVar_row w g t ty cs _ d I H G hi,run_loadVar_row w f t' ty C _ d hf H G J]
variable{a c:Int}
theorem Road.bad{z y:St}(hr:Road S a z y c):c≠0->z=zst/\y=zst:=by
 cases hr<;>first | exact λ_=>Ai | exact λh=>absurd rfl h
theorem Road.idx{z y:St}(hr:Road S a z y c):c=0->S[plN S (a+1) - 1]? =some z/\S[plN S a]? =some y:=by
 cases hr with
 | Q f hf hb l hl hn ha y hy ey hp eq1=>exact λ_=>⟨by rw[eq1,Nat.add_sub_cancel];exact hy,hy⟩
 | M f hf hb l hl hn ha y hy ey hp h0 eq1 z hz=>exact λ_=>⟨by rw[eq1];exact hz,hy⟩
 | _=>intro h;cases h
theorem StL.mono{b o:Nat}{x:St}{W:World}(h:StL w b o x)(hb:Bi w.heap.size w W):StL W b o x:=by
 obtain⟨h1,cs,h2,h3,C⟩:=h;exact⟨h1.mono hb,cs,h2.mono hb,h3.mono hb,C.mono hb⟩
theorem fQ(w:World):bo w (zst.pose.cs.map Fq.raw) ai:=by
 obtain⟨cs,e,h⟩:=dB w;injection e with e;rw[show ai=cs by simpa using congrArg Array.toList e];exact h
set_option maxHeartbeats 1000000 in
theorem k_rAround(h:TrkS 185 w g sl S)(hS:GoodS S){z y:St}(Z:Road S a z y c):AC AB 168 #[ptG g,.int .i64 a] w λe w'=>∃v0 v1,e= .returned (.tuple #[v0,v1,.int .i64 c])/\zj w' v0 z/\zj w' v1 y/\Bi w.heap.size w w':=by
 have hn:=hS.len;obtain⟨ad,c1,ay,g0⟩:=h.form;go_enter Tryz.func168,Tryz.ntmps168
 refine bk 108 [(0,ptG g),(1,.int .i64 a)] λC=> ?_
 (repeat first | refine BP ?_ | refine Cq ?_);refine bD ?_;refine vA C 22 λ{_ W4 B4 a0} G an C=> ?_
 refine vA C 22 λ{_ W5 B5 a1} F ao C=> ?_
 refine sZ C ?_;intro _ C;have ar:=F.bel;have ab:=G.bel.trans (F.bel.mono G.bel.size);have U:B5≠B4:=by have:=(AZ.1 G.blk).1;have:=F.ge;omega
 have F:VB w W5 120 B5 a1:=⟨F.blk,ab,AD G.bel.size F.ge,F.nu⟩;have G:VB w W5 120 B4 a0:=G.next ar;have hb:=AF W5.heap.size W5;have f0:=g0.mono ab;subst ay;rcases Z.at with⟨rfl,h0⟩ | ⟨f,l,h0,hf,hl,hr⟩
 ·obtain⟨rfl,rfl⟩:=Z.bad it;refine sX C ?_;intro _ C;refine mCt C ?_;(repeat first | refine BP ?_ | refine Cq ?_);refine bD ?_;refine wY C (.agg (AK .i64 zst.tm::ai).toArray) (by unfold ai;go_simp;try rfl) λC=> ?_
  refine wY C (.agg (AK .i64 zst.tm::ai).toArray) (by unfold ai;go_simp;try rfl) λC=> ?_
  refine vFS G an (fQ w) C λG u C=> ?_
  refine vFS (F.upd u U G) ao (fQ w) C λF u C=> ?_
  refine sZ C ?_;intro _ C;refine Ct ?_
  repeat first | refine jV ?_ | refine jW ?_
  refine A7 (zQ rfl _ _ _ _ _ _ _ _ _ (C.gt 4) (C.gt 5) (G.upd u U.symm F).blk F.blk Eh rfl Aa Aa) C.df ?_;rw[C.gt 6];exact⟨_,_,rfl,⟨_,rfl,fQ _⟩,⟨_,rfl,fQ _⟩,F.bel⟩
 ·obtain⟨b,o,c2,e,J⟩:=h.parts (jv hf);injection e with e1 e2 e3;subst e1;subst e3;clear e2;have Y:∀k x,S[k]? =some x->StL W5 b (o+k*22) x:=λk x hx=>(J k x hx).mono ab
  obtain⟨f1,_⟩:=Y _ f hf;obtain⟨f2,_⟩:=Y _ l hl;rcases hr with⟨rfl,hr⟩ | ⟨rfl,r1,r2,hp,hy,hr⟩
  ·obtain⟨rfl,rfl⟩:=Z.bad it;refine sX C ?_;intro _ C;refine cB C ?_;refine gA (λa' w'=>False) ?_ (λa' w' V=>V.elim);refine gA (λa' w'=>Kn 108 [(4,.pointer (some ⟨B4,0,none⟩)),(5,.pointer (some ⟨B5,0,none⟩)),(44,.bool true)] a'/\Bi W5.heap.size W5 w') ?_ (λa' w' V=> ?_)
   ·rcases hr with hr | ⟨hr,a2⟩
    ·refine uX C ?_;intro _ C w' aa;exact⟨C.ct,Ak⟩
    ·refine uA C ?_;intro _ C;refine uN C ((S.length - 1:Nat)) λC=> ?_
     refine uZ C ?_;intro _ C w' aa;exact⟨C.ct,Ak⟩
   ·obtain⟨C,hb⟩:=V;have G:=G.next hb;have F:=F.next hb;refine mCt C ?_;(repeat first | refine BP ?_ | refine Cq ?_);refine bD ?_;refine wY C (.agg (AK .i64 zst.tm::ai).toArray) (by unfold ai;go_simp;try rfl) λC=> ?_
    refine wY C (.agg (AK .i64 zst.tm::ai).toArray) (by unfold ai;go_simp;try rfl) λC=> ?_
    refine vFS G an (fQ w) C λG u C=> ?_
    refine vFS (F.upd u U G) ao (fQ w) C λF u C=> ?_
    refine sZ C ?_;intro _ C;refine Ct ?_
    repeat first | refine jV ?_ | refine jW ?_
    refine A7 (zQ rfl _ _ _ _ _ _ _ _ _ (C.gt 4) (C.gt 5) (G.upd u U.symm F).blk F.blk Eh rfl Aa Aa) C.df ?_;rw[C.gt 6];exact⟨_,_,rfl,⟨_,rfl,fQ _⟩,⟨_,rfl,fQ _⟩,F.bel⟩
  ·refine sX C ?_;intro _ C;refine cB C ?_;refine uA C ?_;intro _ C;refine uN C ((S.length - 1:Nat)) λC=> ?_
   refine uZ C ?_;intro _ C w' aa;refine cB C ?_;refine uA C ?_;intro _ C;refine uN C ((S.length - 1:Nat)) λC=> ?_
   refine uZ C ?_;intro _ C w' aa;clear hb;have hb:=aa;obtain⟨w6,aq⟩:∃w6,w6=w':=⟨_,rfl⟩;rw[<-aq]at hb⊢;have au:=f0;have C:=C.ct (l':=[(0,ptG g),(1,.int .i64 a),(4,.pointer (some ⟨B4,0,none⟩)),(5,.pointer (some ⟨B5,0,none⟩)),(7,.int .i64 0),(8,.int .i64 ((S.length - 1:Nat):Int))]);have hq:=ii S (a+1);have hq1:0<plN S (a+1):=by
    rcases Nat.eq_zero_or_pos (plN S (a+1))with e | e
    ·exact absurd (show f.tm<a+1 by omega) (kj hS.sort no hf)
    ·exact e
   refine gA (λa' wr=>Kn 108 [(0,ptG g),(1,.int .i64 a),(4,.pointer (some ⟨B4,0,none⟩)),(5,.pointer (some ⟨B5,0,none⟩)),(7,.int .i64 ((plN S (a+1) - 1:Nat):Int)),(8,.int .i64 ((S.length - 1:Nat):Int))] a'/\wr=w6) ?_ (λa' wr V=> ?_)
   ·refine sX C ?_;intro _ C;refine eU (λa' wr=>∃k:Nat,Kn 108 [(0,ptG g),(1,.int .i64 a),(4,.pointer (some ⟨B4,0,none⟩)),(5,.pointer (some ⟨B5,0,none⟩)),(7,.int .i64 ((min k (plN S (a+1)) - 1:Nat):Int)),(8,.int .i64 ((S.length - 1:Nat):Int)),(9,.int .i64 (k:Int))] a'/\k<=S.length/\wr=w6) (λa' _=>S.length - (intOf (a'.tmps.getD 9 undef)).toNat) ⟨0,by rw[Nat.zero_min];exact C.ct,AY _,rfl⟩ (λa' wr V=> ?_);clear C;obtain⟨k,C,ap,rfl⟩:=V;have ak:(intOf (a'.tmps.getD 9 undef)).toNat=k:=by rw[C.gt 9];simp[intOf]
    rw[ak];rcases DD ap with ac | rfl
    ·obtain⟨x,hx⟩:∃x,S[k]? =some x:=⟨_,AJ ac⟩;obtain⟨f3,_⟩:=Y _ x hx;refine sX C ?_;intro _ C;refine lB C ?_;by_cases hkp:k<plN S (a+1)
     ·obtain⟨x',H,am⟩:=eN hkp;rw[hx]at H;injection H with H;subst H;refine sX C ?_;intro _ C;refine mCt C ?_;refine sX C ?_;intro _ C;refine sA C ?_;intro _ C;refine vN C ((k+1:Nat)) λC=> ?_
      refine sD C ?_;intro _ C;refine wln ?_;refine mUp ?_;refine⟨⟨k+1,by rw[show min (k+1) (plN S (a+1)) - 1=k by omega];exact C.ct,ac,rfl⟩,?_⟩;rw[C.gt 9];simp only[intOf];omega
     ·have am:=kj hS.sort (DK hkp) hx;refine sX C ?_;intro _ C;refine cB C ?_;refine sA C ?_;intro _ C;refine vN C ((k+1:Nat)) λC=> ?_
      refine sD C ?_;intro _ C;refine wln ?_;refine mUp ?_;refine⟨⟨k+1,by rw[show min (k+1) (plN S (a+1)) - 1=min k (plN S (a+1)) - 1 by omega];exact C.ct,ac,rfl⟩,?_⟩;rw[C.gt 9];simp only[intOf];omega
    ·refine sX C ?_;intro _ C;refine mCf C ?_;refine mEx ?_;rw[Nat.min_eq_right hq]at C;exact⟨C.ct,rfl⟩
   ·obtain⟨C,rfl⟩:=V;clear aq;refine gA (λa' wq=>Kn 108 [(0,ptG g),(1,.int .i64 a),(4,.pointer (some ⟨B4,0,none⟩)),(5,.pointer (some ⟨B5,0,none⟩)),(7,.int .i64 ((plN S (a+1) - 1:Nat):Int)),(8,.int .i64 ((plN S a:Nat):Int))] a'/\wq=wr) ?_ (λa' wq V=> ?_)
    ·refine sA C ?_;intro _ C;refine vN C ((S.length - 1:Nat)) λC=> ?_
     refine sZ C ?_;intro _ C;refine eU (λa' wq=>∃m:Nat,Kn 108 [(0,ptG g),(1,.int .i64 a),(4,.pointer (some ⟨B4,0,none⟩)),(5,.pointer (some ⟨B5,0,none⟩)),(7,.int .i64 ((plN S (a+1) - 1:Nat):Int)),(8,.int .i64 ((max (plN S a) (min m (S.length - 1)):Nat):Int)),(10,.int .i64 ((m:Int) - 1))] a'/\m<=S.length/\wq=wr) (λa' _=>(intOf (a'.tmps.getD 10 undef)+1).toNat) ⟨S.length,by rw[show max (plN S a) (min S.length (S.length - 1))=S.length - 1 by omega,show(S.length:Int) - 1=((S.length - 1:Nat):Int)by omega];exact C.ct,AE _,rfl⟩ (λa' wq V=> ?_);clear C;obtain⟨m,C,ap,rfl⟩:=V;have ak:(intOf (a'.tmps.getD 10 undef)+1).toNat=m:=by rw[C.gt 10];simp[intOf]
     rw[ak]
     cases m with
     | zero=>
      refine sX C ?_;intro _ C;refine mCf C ?_;refine mEx ?_;rw[Nat.zero_min,Nat.max_zero]at C;exact⟨C.ct,rfl⟩
     | succ k=>
      rw[show(((k+1:Nat):Int)) - 1=(k:Int)by omega]at C;obtain⟨x,hx⟩:∃x,S[k]? =some x:=⟨_,AJ no⟩;obtain⟨f3,_⟩:=Y _ x hx;refine sX C ?_;intro _ C;refine lB C ?_;by_cases hkp:k<plN S a
      ·obtain⟨x',H,am⟩:=eN hkp;rw[hx]at H;injection H with H;subst H;refine sX C ?_;intro _ C;refine cB C ?_;refine sA C ?_;intro _ C;refine vN C (((k:Int) - 1)) λC=> ?_
       refine sD C ?_;intro _ C;refine wln ?_;refine mUp ?_;refine⟨⟨k,by rw[show max (plN S a) (min k (S.length - 1))=max (plN S a) (min (k+1) (S.length - 1))by omega];exact C.ct,no,rfl⟩,?_⟩;rw[C.gt 10];simp only[intOf];omega
      ·have am:=kj hS.sort (DK hkp) hx;refine sX C ?_;intro _ C;refine mCt C ?_;refine sX C ?_;intro _ C;refine sA C ?_;intro _ C;refine vN C (((k:Int) - 1)) λC=> ?_
       refine sD C ?_;intro _ C;refine wln ?_;refine mUp ?_;refine⟨⟨k,by rw[show max (plN S a) (min k (S.length - 1))=k by omega];exact C.ct,no,rfl⟩,?_⟩;rw[C.gt 10];simp only[intOf];omega
    ·obtain⟨C,rfl⟩:=V;obtain⟨hz,hy⟩:=Z.idx rfl;obtain⟨_,cz,P,_,k3⟩:=J _ z hz;obtain⟨_,cy,K,_,k6⟩:=J _ y hy;have G:=G.next hb.drew;have F:=F.next hb.drew;clear f0 au f1 f2 Y J;(repeat first | refine BP ?_ | refine Cq ?_);refine Eo (S:=λw'=>Bi w.heap.size w w') Aa F.bel (λI=> ?_);refine yK 0 C I λC=> ?_
     refine yK 1 C I λC=> ?_
     refine yK 2 C I λC=> ?_
     refine yK 3 C I λC=> ?_
     refine yK 4 C I λC=> ?_
     refine yK 5 C I λC=> ?_
     refine yK 6 C I λC=> ?_
     refine yK 7 C I λC=> ?_
     refine yK 8 C I λC=> ?_
     refine yK 9 C I λC=> ?_
     refine yK 10 C I λC=> ?_
     refine yK 11 C I λC=> ?_
     refine yK 12 C I λC=> ?_
     refine yK 13 C I λC=> ?_
     obtain⟨W7,av,G,u⟩:=G.fill (cs:=.int .i64 z.tm::cz) (by rw[an,Bg,aE P];rfl) (zz P) (qy P) (by rw[Bg,aE P];rfl);refine yW 14 C W7 (λe=>by cases e;exact sE C rfl rfl rfl av) G.bel λC=> ?_
     obtain⟨W8,ax,F,u8⟩:=(F.upd u U G).fill (cs:=.int .i64 y.tm::cy) (by rw[ao,Bg,aE K];rfl) (zz K) (qy K) (by rw[Bg,aE K];rfl);refine yW 15 C W8 (λe=>by cases e;exact sE C rfl rfl rfl ax) F.bel λC=> ?_
     refine yV 16 C _ _ (λe=>by cases e;exact qv C rfl rfl) F.bel λC=>Ep Aa ?_ _
     refine mUp ?_;refine Ct ?_
     repeat first | refine jV ?_ | refine jW ?_
     refine A7 (zQ rfl _ _ _ _ _ _ _ _ _ (C.gt 4) (C.gt 5) (G.upd u8 U.symm F).blk F.blk Eh rfl (by rw[Cb,Bg,aE P];rfl) (by rw[Cb,Bg,aE K];rfl)) C.df ?_;rw[C.gt 6];exact⟨_,_,rfl,⟨_,rfl,P.mono F.bel⟩,⟨_,rfl,K.mono F.bel⟩,F.bel⟩
end
section
variable {w:World} {g:Nat} {sl:Value} {S:List St}
theorem Road.two{a:Int}{z y:St}{c:Int}(hr:Road S a z y c)(C:GoodS S):c=0->GoodT z/\GoodT y/\(z=y\/z.tm<a/\a<y.tm/\¬opp z.pose y.pose):=by
 cases hr with
 | Q f hf hb l hl hn ha y hy ey hp eq1=>exact λ_=>⟨C.at hy,C.at hy,.inl rfl⟩
 | M f hf hb l hl hn ha y hy ey hp h0 eq1 z hz=>
  obtain⟨x,F,G⟩:=eN (S:=S) (a:=a) (k:=plN S a - 1) no;rw[hz]at F;injection F with F;subst F;exact λ_=>⟨C.at hz,C.at hy,.inr ⟨G,ey,C.adj _ z y hz (by rw[show plN S a - 1+1=plN S a by omega];exact hy)⟩⟩
 | _=>intro h;cases h
set_option maxHeartbeats 1000000 in
theorem k_rAt(h:TrkS 185 w g sl S)(hS:GoodS S){a:Int}{z y:St}{c:Int}(aq:Road S a z y c):AC AB 99 #[ptG g,.int .i64 a] w λe w'=>∃v,e= .returned (.tuple #[v,.int .i64 c])/\aR w' v (atP z y c a)/\Bi w.heap.size w w':=by
 go_enter Tryz.func99,Tryz.ntmps99
 refine bk 54 [(0,ptG g),(1,.int .i64 a)] λC=> ?_
 (repeat first | refine BP ?_ | refine Cq ?_);refine bD ?_;refine vA C 21 λ{_ W0 B vs} V hz C=> ?_
 refine sZ C ?_;intro _ C;have hb:=AF W0.heap.size W0;refine sA C ?_;intro _ C;refine wC C (ah Tryz.func168 rfl rfl) (k_rAround (h.mono V.bel) hS aq) λ{e w1} hr=> ?_
 obtain⟨_,_,rfl,⟨cz,rfl,H⟩,⟨cy,rfl,ab⟩,an⟩:=hr;refine⟨_,rfl,λ_ C=> ?_⟩;clear hb;refine sD C ?_;intro _ C;refine vA C 22 λ{_ W6 B6 a6} K a0 C=> ?_
 refine vA C 22 λ{_ W7 B7 a2} F a1 C=> ?_
 have am:=F.bel;have ap:B7≠B6:=by have:=(AZ.1 K.blk).1;have:=F.ge;omega
 have F:VB w1 W7 120 B7 a2:=⟨F.blk,K.bel.trans (am.mono K.bel.size),AD K.bel.size F.ge,F.nu⟩;refine vFS (K.next am) a0 H C λK u C=> ?_
 refine vFS (F.upd u ap K) a1 ab C λ{_ W8} F u C=> ?_
 have K:=K.upd u ap.symm F;refine sZ C ?_;intro _ C;obtain⟨g1,g2,g3⟩:=K.st H;obtain⟨k1,k2,k3⟩:=F.st ab;have b8:=an.trans (F.bel.mono an.size);have hb:=AF W8.heap.size W8;by_cases hc:c=0
 ·subst hc;obtain⟨gz,gy,ax⟩:=aq.two hS rfl;have z0:=gz.lo;have z1:=gz.hi;have y0:=gy.lo;have y1:=gy.hi;rcases ax with rfl | ⟨a5,a4,ay⟩
  ·rw[show atP z z 0 a=z.pose by simp[atP]];refine sX C ?_;intro _ C;refine cB C ?_;refine sX C ?_;intro _ C;refine mCt C ?_;refine sA C ?_;intro _ C;have V4:=V.next b8;refine vFR V4 (H.mono F.bel) hz C λV5 U C=> ?_
   refine sZ C ?_;intro _ C;refine Ct ?_
   repeat first | refine jV ?_ | refine jW ?_
   refine A7 (V5.ret (by rw[Cb,aE H];rfl) rfl _ (C.gt 4)) C.df ?_;rw[C.gt 5];exact⟨_,rfl,⟨cz,rfl,(H.mono F.bel).upd V4.own U⟩,V5.bel⟩
  ·refine sX C ?_;intro _ C;refine cB C ?_;refine sX C ?_;intro _ C;refine cB C ?_;refine sA C ?_;intro _ C;refine vN C ((a - z.tm)) λC=> ?_
   refine sD C ?_;intro _ C;refine vN C ((y.tm - z.tm)) λC=> ?_
   refine wC C (ah Tryz.func169 rfl rfl) (vH (a - z.tm) (y.tm - z.tm) W8 no no no no no) λ{e a7} hr=> ?_
   obtain⟨v,rfl,hq,Y⟩:=hr;obtain⟨cm,rfl,ao⟩:=aaY hq;refine⟨_,rfl,λ_ C=> ?_⟩;clear hb;refine sD C ?_;intro _ C;refine vA C 3 λI ar C=> ?_
   refine vFR I ao ar C λ{_ aa} I _ C=> ?_
   refine sZ C ?_;intro _ C;have P:=Y.trans (I.bel.mono Y.size);have ad:=b8.trans (P.mono b8.size);have g2:=g2.mono P;have k2:=k2.mono P;have f:=I.fr ao;have hb:=AF aa.heap.size aa;have ak:=F.bel.trans (P.mono F.bel.size);refine sA C ?_;intro _ C;refine wC C (ah Tryz.func170 rfl rfl) (wu _ _ _ z.pose y.pose (Fq.ratio (a - z.tm) (y.tm - z.tm)) aa ⟨cz,rfl,H.mono ak⟩ ⟨cy,rfl,ab.mono ak⟩ (hq.mono I.bel) (gz.ok.mono it) (gy.ok.mono it) ((iK no no no no no).mono it) gz.good gy.good (du no) ay) λ{e a9} hr=> ?_
   obtain⟨_,rfl,⟨cr,rfl,G⟩,Z⟩:=hr;refine⟨_,rfl,λ_ C=> ?_⟩;clear hb;refine sD C ?_;intro _ C;refine vA C 21 λJ au C=> ?_
   refine vFR J G au C λ{_ ac} J _ C=> ?_
   refine sZ C ?_;intro _ C;have a3:=J.fr G;have hb:=AF ac.heap.size ac;refine sA C ?_;intro _ C;have av:=Z.trans (J.bel.mono Z.size);have V4:=V.next (ad.trans (av.mono ad.size));have G:=G.mono J.bel;refine vFR V4 G hz C λV5 U C=> ?_
   refine sZ C ?_;intro _ C;refine Ct ?_
   repeat first | refine jV ?_ | refine jW ?_
   refine A7 (V5.ret (by rw[Cb,aE G];rfl) rfl _ (C.gt 4)) C.df ?_;rw[C.gt 5,show atP z y 0 a=_ from(if_neg Ad).trans (if_neg no)];exact⟨_,rfl,⟨cr,rfl,G.upd V4.own U⟩,V5.bel⟩
 ·rw[show atP z y c a=Pq.zero from if_pos hc];refine sX C ?_;intro _ C;refine mCt C ?_;(repeat first | refine BP ?_ | refine Cq ?_);refine bD ?_;refine wY C (.agg ai.toArray) (by unfold ai;go_simp;try rfl) λC=> ?_
  refine sD C ?_;intro _ C;refine vFR (V.next b8) (cs:=ai) (rs:=Pq.zero.cs.map Fq.raw) (fQ w) hz C λV2 _ C=> ?_
  refine sZ C ?_;intro _ C;refine Ct ?_
  repeat first | refine jV ?_ | refine jW ?_
  refine A7 (V2.ret rfl rfl _ (C.gt 4)) C.df ?_;rw[C.gt 5];exact⟨_,rfl,dB _,V2.bel⟩
end
section
open Classical
variable{L:List Rl}
theorem PlS.tat{c:Nm}{a i:Int}(h:PlS L c a i)(F:TOk (trR L)):(i= -1/\tAt (trR L) c a=none)\/∃(k:Nat)(l:Rl),i=(k:Int)/\L[k]? =some l/\l.c=c/\tAt (trR L) c a=some l.x:=by
 rcases h with⟨h1,h2⟩ | ⟨k,l,h1,h2,h3,C⟩
 ·exact .inl ⟨h1,h2.tAt⟩
 ·exact .inr ⟨k,l,h1,h2,h3,C.tAt (F.row c)⟩
theorem RM.pose{w:World}{t:Nat}{n U k:Nat}{l:Rl}{b:Nat}(h:RM w t (.slice (some ⟨b,0,none⟩) n U) L)(K:L[k]? =some l):
  ∃cs:List Value,cs.length=21/\w.rangeAt b (k*27+5) cs/\aR w (.agg cs.toArray) l.x.po:=by
 obtain⟨xs,⟨h1,_⟩,h3⟩:=h.row;have Y:=(AX.1 K).1;have Z:xs.length=L.length*27:=by rw[h3.1,pc]
 have hn:n=L.length:=by
  obtain⟨ad,c,e⟩:=h.form;injection e
 subst hn;have J:∀j,j<21->((xs.drop (k*27+5)).take 21)[j]? =xs[k*27+(5+j)]? :=λj F=>by rw[BI,if_pos F,Cv];congr 1;omega
 have C:((xs.drop (k*27+5)).take 21).length=21:=by rw[A9,CB];omega
 refine⟨(xs.drop (k*27+5)).take 21,C,λj v F=> ?_,⟨_,rfl,mP (xs:=l.x.po.cs) C (λj q P=> ?_)⟩⟩
 ·have H:j<21:=by have:=(AX.1 F).1;omega
  rw[J j H]at F;obtain⟨g,G,V⟩:=cQ h1 F;injection G with G;injection G with G;subst G;rw[Nat.add_assoc];exact V
 ·have F:j<21:=(AX.1 P).1;have I:l.qs[5+j]? =some q:=by
   show([.val (.string l.c),.val (.string l.x.par),.val (.int .i64 l.x.fr),.val (.int .i64 l.x.un),.val (.bool l.x.st)]++(frs l.x.po.cs++ [.val (ptB l.g)]):List Vp)[5+j]? =some q;rw[Bv Ad,Bz (by show 5+j - 5<21;omega)];rw[show 5+j - ([.val (.string l.c),.val (.string l.x.par),.val (.int .i64 l.x.fr),.val (.int .i64 l.x.un),.val (.bool l.x.st)]:List Vp).length=j from by show 5+j - 5=j;omega];exact P
  obtain⟨u,k1,k2,_⟩:=h3.2 (k*27+(5+j)) q (by rw[ue K no];exact I);exact⟨u,by rw[J j F];exact k1,k2⟩
set_option maxHeartbeats 2000000 in
theorem q_EdgeR{w:World}{t:Nat}{v:Value}(h:RM w t v L)(hR:TOk (trR L))(c:Nm)(a:Int)(hn:L.length<=1000000):
  AC AB 42 #[ptB t,.string c,.int .i64 a] w λe w'=>∃v,e= .returned (.tuple #[v,.int .i64 (bv (trR L) c a).2])/\aR w' v (bv (trR L) c a).1/\Bi w.heap.size w w':=by
 have ak:=PB.new w;have am:=mV (h.below ak.bel) c a hn;have Z:=AA ak;have HM:=AA (show∀wq,Bi w.heap.size w wq->RM wq t v L from λwq k=>h.below k);have HR:=AA hR;obtain⟨ad,cp,hv⟩:=h.form;obtain⟨n,hN⟩:∃n,n=L.length:=⟨_,rfl⟩;have HN:=AA hN;rw[<-hN]at hv hn;subst hv;have a5:(n:Int)<=1000000:=no
 obtain⟨W,hW⟩:∃W,w.alloc (.cells ai.toArray 39)=W:=⟨_,rfl⟩;rw[hW]at am Z;clear h hN hn hR ak;go_enter Tryz.func42,Tryz.ntmps42
 go_upto_region 0 with(fail)
 refine Bn ?_;refine ae rfl (v:=.pointer (some ⟨w.heap.size,0,none⟩)) (w':=W) (by subst hW;go_simp;try rfl) ?_;obtain⟨B,hB⟩:∃B,w.heap.size=B:=⟨_,rfl⟩;rw[hB]at Z⊢;clear hW hB;go_upto_if 14 with(go_at_call 96;refine am.mono ?_;rintro e w1 ⟨i,rfl,hi,hb⟩;have HP:=AA (hi.tat HR.out);have U:=AA (Z.out.next hb);clear am hi hb)
 rcases HP.out with⟨hi,hp⟩ | ⟨k,l,hi,C,hc,hp⟩
 ·subst hi;have HE:=AA (show bv (trR L) c a=(Pq.zero,18)by unfold bv;rw[hp]);clear hp;go_upto_region 3 with(fail)
  refine Bn ?_;refine ae rfl (v:=.agg ai.toArray) (w':=w1) (by unfold ai;go_simp;try rfl) ?_;refine wpList_store_mid rfl _ _ _ rfl B 0 ai.toArray rfl rfl U.out.there Aa Aa ?_;have ap:=AA (U.out.put (us:=ai) rfl U.out.nu);generalize w1.setCells B 0 ai.toArray.toList=W2 at *;go_wp2;refine A7 (ap.out.ret rfl _ rfl) rfl ?_;rw[HE.out];exact⟨_,rfl,dB _,ap.out.bel⟩
 ·subst hi;have ar:=(AX.1 C).1;have a4:(k:Int)<(n:Int):=by rw[HN.out];omega
  have q0:decide ((k:Int)<0)=false:=decide_eq_false no;have H:=HM.out w1 U.out.bel;have a3:=H.cell;obtain⟨b,c2,cs,e,A⟩:=H.at C;injection e with V e2 e3;subst V;subst e3;clear e2;have fst:=A.st;have aq:=A.tp
  cases hs:l.x.st with
  | true=>
   rw[hs]at fst;have HE:=AA (show bv (trR L) c a=(l.x.po,0)by unfold bv;rw[hp];simp only[hs];rfl);obtain⟨us,F,au,ac⟩:=H.pose C;obtain⟨ao,e',J,K⟩:∃ao:List Value,us=ao/\us.toArray.all (·.oneCell')=true/\∀u∈us,noU u:=by
    obtain⟨a2,V,_,h3,h4⟩:=dH ac;have V:us=a2:=by injection V with V;simpa using V
    exact⟨us,rfl,by rw[V];exact h3,by rw[V];exact h4⟩
   clear e' ao;have av:=AA au;have I:=AA (U.out.put (us:=us) F K);have HV:=AA (U.out.keep (us:=us) ac);have ax:=AA (show(AB.info? 39).map (·.size)=some us.length by rw[F];kernel_rfl);have G:=U.out.there;rw[<-F]at G;have ay:=AA G;have a1:=AA F;have a0:=AA J;clear A H C ar hc hp hs au ac K G F J aq;go_upto_region 5 with(fail)
   refine bk 44 [(0,ptB t),(2,.int .i64 a),(6,ptB B),(8,.int .i64 (k:Int))] λC=> ?_
   refine bD ?_
   repeat refine wS C λC=> ?_
   refine wF C (ptB t) λC=> ?_
   refine wL C (.slice (some ⟨b,0,none⟩) n cp) λC=> ?_
   repeat refine wS C λC=> ?_
   refine wI C (.pointer (some ⟨b,k*27,none⟩)) λC=> ?_
   refine wF C (.pointer (some ⟨b,k*27+5,none⟩)) λC=> ?_
   refine wL C (.agg us.toArray) (hr:=run_loadAt_mid _ _ _ _ us _ av.out CC rfl ax.out) λC=> ?_
   refine wT C (w1.setCells B 0 us) (hr:=run_storeAt_mid _ _ _ _ us.toArray (by simpa using ay.out) (bc a1.out) a0.out) λC=> ?_
   repeat refine wS C λC=> ?_
   generalize W2d:w1.setCells B 0 us=W2 at *;clear W2d;go_wp2;refine A7 (I.out.ret rfl _ (C.getD rfl)) C.df ?_;rw[HE.out,C.gt 7];exact⟨_,rfl,HV.out,I.out.bel⟩
  | false=>
   rw[hs]at fst;have ab:=HR.out.good _ (A0 (gF C));obtain⟨z,y,cc,Y⟩:=road ab a;have HE:=AA (show bv (trR L) c a=(atP z y cc a,cc)by unfold bv;rw[hp];simp only[hs];exact Y.trkP);have aa:=k_rAt (H.trk l (A0 C)) ab Y
   change AC AB 99 #[ptB l.g,.int .i64 a] w1 _ at aa
   clear A H C ar hc hp hs ab Y;generalize l.g=lg at *;generalize atP z y cc a=po at *;go_upto_region 6 with(fail)
   refine bk 44 [(0,ptB t),(2,.int .i64 a),(6,ptB B),(8,.int .i64 (k:Int))] λC=> ?_
   refine bD ?_
   repeat refine wS C λC=> ?_
   refine wF C (ptB t) λC=> ?_
   refine wL C (.slice (some ⟨b,0,none⟩) n cp) λC=> ?_
   repeat refine wS C λC=> ?_
   refine wI C (.pointer (some ⟨b,k*27,none⟩)) λC=> ?_
   refine wF C (.pointer (some ⟨b,k*27+26,none⟩)) λC=> ?_
   refine wL C (ptB lg) λC=> ?_
   repeat refine wS C λC=> ?_
   refine wC C (ah Tryz.func99 rfl rfl) (aa) λ{e w4} Y=> ?_
   obtain⟨v,rfl,an,k4⟩:=Y;obtain⟨us,rfl,F,J,K⟩:=dH an;have P:=U.out.next k4;have I:=AA (P.put (us:=us) F K);have HV:=AA (P.keep (us:=us) an);have G:=P.there;rw[<-F]at G;refine⟨_,rfl,λ_ C=> ?_⟩;clear an k4 aa fst aq a3
   repeat refine wS C λC=> ?_
   refine wT C (w4.setCells B 0 us) (hr:=run_storeAt_mid _ _ _ _ us.toArray Aw (bc F) J) λC=> ?_
   repeat refine wS C λC=> ?_
   generalize W2d:w4.setCells B 0 us=W2 at *;clear W2d P G J K;go_wp2;refine A7 (I.out.ret rfl _ (C.getD rfl)) C.df ?_;rw[HE.out,C.gt 7];exact⟨_,rfl,HV.out,I.out.bel⟩
end
section
open Classical
def fF(c p:Nm)(f:Int)(g:Nat):List Value:=[.string c,.string p,.int .i64 f,.int .i64 (-1),.bool false]++(ai++ [ptB g])
variable{w:World}
theorem ui{cs:List Value}(hl:cs.length=27):(DU 79 1 #[(0,.agg cs.toArray)]).run AB w= .ok (.slice (some ⟨w.heap.size,0,none⟩) 1 1) (w.alloc (.cells cs.toArray rlT)):=by
 match cs,hl with
 | [c0,c1,c2,c3,c4,c5,c6,c7,c8,c9,c10,c11,c12,c13,c14,c15,c16,c17,c18,c19,c20,c21,c22,c23,c24,c25,c26],_=>go_simp
theorem qI{vs:List Value}(h:∀v∈vs,fB v):aO w (vs.map Vp.val) vs:=⟨Ad,λj q C=>by
 rw[Bp]at C
 cases hv:vs[j]? with
 | none=>rw[hv]at C;cases C
 | some v=>rw[hv]at C;injection C with C;subst C;exact⟨v,rfl,⟨rfl,h v (A0 hv)⟩,λ_ h=>h⟩⟩
theorem zR(w:World):aO w (frs Pq.zero.cs) ai:=by
 obtain⟨F,C,hc⟩:=dB w;have C:ai=F:=by injection C with C;simpa using C
 subst C;exact⟨rfl,λj q G=>iQ hc G⟩
theorem att_cells(w:World)(c p:Nm)(f:Int)(g:Nat)(sl:Value):aO w (Rl.qs ⟨c,bG p f,g,sl⟩) (fF c p f g):=
 (qI (vs:=[.string c,.string p,.int .i64 f,.int .i64 (-1),.bool false]) (λv C=>by
  simp only[AS,Dt,or_false]at C;rcases C with rfl | rfl | rfl | rfl | rfl
  ·exact gi
  ·exact gi
  ·exact cZ it
  ·exact cZ it
  ·exact bK)).append ((zR w).append (qI (vs:=[ptB g]) (λv C=>by
  obtain rfl:v=ptB g:=by simpa using C
  exact pL)))
variable{ad:Option AU}
theorem att_push{F:World}{t n U g:Nat}{L:List Rl}{c p:Nm}{f:Int}{sl:Value}(h:RM w t (.slice ad n U) L)(hN:n=L.length)(hn:L.length<=1000000)(hb:Bi w.heap.size w F)
  (hg:w.heap.size<=g)(hT:TrkS rkT F g sl [])(hs:∀b,sl.ownBlock=some b->w.heap.size<=b/\bw F b):
  ∃v' P,(BM #[79,79] 79 #[.slice ad n U,.slice (some ⟨F.heap.size,0,none⟩) 1 1]).run AB (F.alloc (.cells (fF c p f g).toArray rlT))= .ok v' P/\
   P.cell? ⟨t,0,none⟩=some (.slice ad n U)/\P.frozen? ⟨t,0,none⟩=false/\RPost w t (.slice ad n U) L (P.setCell ⟨t,0,none⟩ v') v' (L++ [⟨c,bG p f,g,sl⟩]):=by
 have V:bw F g:=bw.mk' hT.blk (λk m e=>by
  cases k with
  | zero=>simp at e;exact((Vp.row stT _ _).fl _ _ hT.row).2.2 m e
  | succ k=>simp at e)
 obtain⟨K,J⟩:∃K,F.alloc (.cells (fF c p f g).toArray rlT)=K:=⟨_,rfl⟩;have C:mBw F K:=by rw[<-J];exact(AF _ _).alloc (AE _) _
 have Y:K.heap[F.heap.size]? =some (.cells (fF c p f g).toArray rlT (0,0)):=by rw[<-J];exact Bm F _
 have G:mBw w K:=hb.trans (C.mono hb.size);obtain⟨xs,hx,ak⟩:=(h.below G).row;have H:t<w.heap.size:=h.lt t (by simp[fpR]);obtain⟨v',P,k1,k2,k3,k4⟩:=jY (p:=AB) (t:=79) (ty:=79) (c:=1) (m:=1) (sz:=27) (bytes:=456) (a:=⟨F.heap.size,0,none⟩) (news:=fF c p f g) Tryz.underlying79 Aa hx rfl
  (λj u I=>by rw[bM,A5,aH Y];simpa using I) (λu I=>by
   obtain⟨j,hj,e⟩:=BK I;simp only[fF,ai,AG,AS,Dt,or_false]at I;rcases I with(rfl | rfl | rfl | rfl | rfl) | (rfl | rfl | rfl | rfl | rfl | rfl | rfl | rfl | rfl | rfl | rfl | rfl | rfl | rfl | rfl | rfl | rfl | rfl | rfl | rfl | rfl) | rfl<;>rfl) (λu I m e=>by
   subst e;simp[fF,ai]at I) it no no
 rw[J];have ac:(D9 ad n U).ownBlock≠some t:=λe=>by
  have:=h.nd;unfold fpR at this;exact(Bu.1 this).1 (by simp[e])
 have Z:P.heap[t]? =w.heap[t]? :=(k2.block t (Bt H G.size) (λe=>ac e.symm)).trans (G.block t H);refine⟨v',P,k1,(BZ Z).trans h.cell,?_,?_⟩
 ·have:=h.tr;rw[<-Z]at this;simp[Dl,this]
 ·have ab:∀b∈g::sl.ownBlock.toList,bw K b:=λb aa=>by
   rcases AS.1 aa with e | e
   ·subst e;exact V.blk (C.block _ V.1) C.size
   ·have:=(hs b Av).2;exact this.blk (C.block _ this.1) C.size
  exact RM.push (l:=⟨c,bG p f,g,sl⟩) h G hx ak (hT.chg (.below C) (λh=>h) (λ_ _ h=>h)) hg (λb e=>(hs b e).1) ab (att_cells K c p f g sl) k2 k3 k4
set_option maxHeartbeats 2000000 in
theorem att_tail{J:World}{t n U:Nat}{L:List Rl}{c p:Nm}{f:Int}{a:Act}{Q:Exit->Act->World->Prop}(h:RM w t (.slice ad n U) L)(hN:n=L.length)(hn:L.length<=1000000)(hb:Bi w.heap.size w J)
  (C:Kn 108 [(0,ptB t),(1,.string c),(2,.string p),(3,.int .i64 f)] a)(hP:∀c a a' w,a'.defers=a.defers->Q (.panic c) a w->Q (.panic c) a' w)
  (hQ:∀a' w' v' g sl,a'.tmps.getD 8 undef= .int .i64 0->a'.defers=[]->RPost w t (.slice ad n U) L w' v' (L++ [⟨c,bG p f,g,sl⟩])->Q .ret a' w'):∀P,restOf 22 AB 95=some P->P.wp AB Q a J:=by
 intro P hc
 conv at hc=>lhs;whnf
 injection hc with hc;subst hc;have ap:J.drew.cell? ⟨t,0,none⟩=some (.slice ad n U):=(h.below hb).cell;have ar:t<J.heap.size:=Bt (h.lt t (by simp[fpR])) hb.size;have an:=AA h;have am:=AA (k_rtNew J.drew);have HB:=AA hb;have Z:=AA (And.intro hN hn);have HQ:=AA hQ;clear h hb hN hn hQ;refine wp_seq_k (λK3 aa=> ?_);have ak:=AA aa;clear aa;refine xe Aa (λops Q' F hq=> ?_);have hp:∀c a a' w,a'.defers=a.defers->Q' (.panic c) a w->Q' (.panic c) a' w:=by subst hq;exact λc a a' w e h=>hP c a a' w e h
 have ac:∀a w,K3 a w->Q' .normal a w:=by subst hq;exact λa w h=>h
 have G:Region.noSelect ops=true:=by rw[F];kernel_rfl
 clear hP hq;refine ec 5 (.string c) C (by rw[F];rfl) G (by rw[F];kernel_rfl) (by rw[F];kernel_rfl) rfl it hp rfl (λa w k=>mQ k rfl rfl) (λa C=> ?_);refine ec 6 (.string p) C (by rw[F];rfl) G (by rw[F];kernel_rfl) (by rw[F];kernel_rfl) rfl it hp rfl (λa w k=>mQ k rfl rfl) (λa C=> ?_);refine ec 7 (.int .i64 f) C (by rw[F];rfl) G (by rw[F];kernel_rfl) (by rw[F];kernel_rfl) rfl it hp rfl (λa w k=>mQ k rfl rfl) (λa C=> ?_);refine ec 0 (ptB t) C (by rw[F];rfl) G (by rw[F];kernel_rfl) (by rw[F];kernel_rfl) rfl it hp rfl (λa w k=>mQ k rfl rfl) (λa C=> ?_);refine ec 1 (ptB t) C (by rw[F];rfl) G (by rw[F];kernel_rfl) (by rw[F];kernel_rfl) rfl it hp rfl (λa w k=>mQ k rfl rfl) (λa C=> ?_);refine ec 2 (ptB t) C (by rw[F];rfl) G (by rw[F];kernel_rfl) (by rw[F];kernel_rfl) rfl it hp rfl (λa w k=>lA k rfl rfl) (λa C=> ?_);refine ec 3 (ptB t) C (by rw[F];rfl) G (by rw[F];kernel_rfl) (by rw[F];kernel_rfl) rfl it hp rfl (λa w k=>by have e:=k.at' 96 _ rfl;go_simp) (λa C=> ?_);have HE:∀I (a:Act) H g sl,I=#[true,true,true,true,true,true,true,true,true,true,true,false,false,false,false]->J.drew.heap.size<=g->TrkS rkT H g sl []->(∀b,sl.ownBlock=some b->J.drew.heap.size<=b/\bw H b)->Bi J.drew.heap.size J.drew H->
   Kn 108 [(94,ptB t),(98,.slice ad n U),(104,.slice (some ⟨H.heap.size,0,none⟩) 1 1)] a->wpAny AB .any ops Q' 4 I a (H.alloc (.cells (fF c p f g).toArray rlT)):=λI a H g sl hl h1 h2 h3 V C=>by
  subst hl;have Y:w.heap.size<=J.drew.heap.size:=HB.out.size;obtain⟨v',w5,k1,k2,k3,k4⟩:=att_push (c:=c) (p:=p) (f:=f) an.out Z.out.1 Z.out.2 (HB.out.drew.trans (V.mono Y)) (AD Y h1) h2 (λb e=>⟨AD Y (h3 b e).1,(h3 b e).2⟩);obtain⟨au,av,ev⟩:=k4.rm.form;refine fW 11 (by rw[F];kernel_rfl) (jS C (by rw[F];rfl) rfl it rfl (jT C rfl rfl rfl k1) (λa C=> ?_));refine ec 12 (ptB t) C (by rw[F];rfl) G (by rw[F];kernel_rfl) (by rw[F];kernel_rfl) rfl it hp rfl (λa w k=>lA k rfl rfl) (λa C=> ?_);refine ec 13 (ptB t) C (by rw[F];rfl) G (by rw[F];kernel_rfl) (by rw[F];kernel_rfl) rfl it hp rfl (λa w k=>by have e:=k.at' 106 _ rfl;go_simp) (λa C=> ?_);refine fW 14 (by rw[F];kernel_rfl) (wpOp_s (w':=w5.setCell ⟨t,0,none⟩ v') C (by rw[F];rfl) rfl rfl (sE C rfl rfl rfl (by rw[ev];go_simp)) (λa C=> ?_));refine wpAny_done (by rw[F];kernel_rfl) (ac _ _ (ak.out _ _ ?_)) _;refine wp_seq_k (λK4 ao=> ?_);refine bD ?_;refine wl (fD rfl) C rfl it (qv C rfl rfl) (λa C=> ?_);exact ao _ _ (Ct (HQ.out _ _ _ _ _ (C.getD rfl) C.df k4))
 have HN:∀(K:Act->World->Prop) l (a:Act),Kn 108 l a->(∀a' H g sl,Kn 108 ((102,ptB g)::l) a'->J.drew.heap.size<=g->TrkS rkT H g sl []->(∀b,sl.ownBlock=some b->J.drew.heap.size<=b/\bw H b)->Bi J.drew.heap.size J.drew H->K a' H)->wpOp AB ops Q' 8 K a J.drew:=λK l a C h=>
  wpOp_c C (by rw[F];rfl) rfl rfl it (gV C rfl rfl rfl (ah Tryz.func161 rfl rfl)) am.out (by
   rintro e H ⟨g,sl,rfl,h1,h2,h3,V⟩;exact⟨_,rfl,λa' aq=>h a' H g sl aq h1 h2 h3 V⟩)
 refine sB 4 8 (by rw[F];kernel_rfl) ?_ ?_
 ·refine jS (v:=.slice ad n U) C (by rw[F];rfl) rfl it rfl (sC C rfl rfl Ah) (λa C=> ?_);refine fW 8 (by rw[F];kernel_rfl) (HN _ _ _ C (λa H g sl C h1 h2 h3 V=> ?_));refine ec 9 (.agg (fF c p f g).toArray) C (by rw[F];rfl) G (by rw[F];kernel_rfl) (by rw[F];kernel_rfl) rfl it hp rfl (λa w k=>by have e0:=k.at' 99 _ rfl;have e1:=k.at' 100 _ rfl;have e2:=k.at' 101 _ rfl;have e3:=k.at' 102 _ rfl;unfold fF ai;go_simp) (λa C=> ?_);refine fW 10 (by rw[F];kernel_rfl) (jS (v:=.slice (some ⟨H.heap.size,0,none⟩) 1 1) (w':=H.alloc (.cells (fF c p f g).toArray rlT)) C (by rw[F];rfl) rfl it rfl (ij C rfl rfl (ui rfl)) (λa C=> ?_));exact HE _ _ H g sl Aa h1 h2 h3 V (C.cut Ac)
 ·refine HN _ _ _ C (λa H g sl C h1 h2 h3 V=> ?_);have ab:H.cell? ⟨t,0,none⟩=some (.slice ad n U):=(BZ (V.block t ar)).trans ap;have ax:(H.alloc (.cells (fF c p f g).toArray rlT)).cell? ⟨t,0,none⟩=some (.slice ad n U):=(World.cell?_alloc_some H _ _ (by rw[ab];rfl)).trans ab;refine ec 9 (.agg (fF c p f g).toArray) C (by rw[F];rfl) G (by rw[F];kernel_rfl) (by rw[F];kernel_rfl) rfl it hp rfl (λa w k=>by have e0:=k.at' 99 _ rfl;have e1:=k.at' 100 _ rfl;have e2:=k.at' 101 _ rfl;have e3:=k.at' 102 _ rfl;unfold fF ai;go_simp) (λa C=> ?_);refine sB 4 10 (by rw[F];kernel_rfl) ?_ ?_
  ·refine jS (v:=.slice ad n U) C (by rw[F];rfl) rfl it rfl (sC C rfl rfl Ah) (λa C=> ?_);refine fW 10 (by rw[F];kernel_rfl) (jS (v:=.slice (some ⟨H.heap.size,0,none⟩) 1 1) (w':=H.alloc (.cells (fF c p f g).toArray rlT)) C (by rw[F];rfl) rfl it rfl (ij C rfl rfl (ui rfl)) (λa C=> ?_));exact HE _ _ H g sl Aa h1 h2 h3 V (C.cut Ac)
  ·refine jS (v:=.slice (some ⟨H.heap.size,0,none⟩) 1 1) (w':=H.alloc (.cells (fF c p f g).toArray rlT)) C (by rw[F];rfl) rfl it rfl (ij C rfl rfl (ui rfl)) (λa C=> ?_);refine fW 4 (by rw[F];kernel_rfl) (jS (v:=.slice ad n U) C (by rw[F];rfl) rfl it rfl (sC C rfl rfl Ah) (λa C=> ?_));exact HE _ _ H g sl Aa h1 h2 h3 V (C.cut Ac)
end
section
open Classical
section
variable {w w':World} {v:Value} {ad:Option AU} {g n cp k:Nat}
end
end
section
open Classical
theorem aa7{α:Type}{x:α}:∀ {P C S S':List α},P++x::S=C++x::S'->(P++x::S).Nodup->P=C/\S=S'
 | [],[],S,S',h,_=>⟨rfl,Au⟩
 | [],p::C,S,S',h,hd=>by
  simp only[C8,Dw,List.cons.injEq]at h hd;obtain⟨rfl,rfl⟩:=h;exact absurd (AG.2 (.inr (Bo ..))) (Bu.1 hd).1
 | p::P,[],S,S',h,hd=>by
  simp only[C8,Dw,List.cons.injEq]at h hd;obtain⟨rfl,rfl⟩:=h;exact absurd (AG.2 (.inr (Bo ..))) (Bu.1 hd).1
 | p::P,p'::C,S,S',h,hd=>by
  simp only[Dw,List.cons.injEq]at h hd;obtain⟨rfl,h⟩:=h;obtain⟨F,G⟩:=aa7 h (Bu.1 hd).2;exact⟨by rw[F],G⟩
section
variable {R Q R' Q' A B A' B':Tr} {c p:Nm} {x x':Lk} {k k':Nat} {a f u e e':Int}
theorem TOk.nodup(h:TOk R)(c:Nm):(lks R c).Nodup:=by
 refine List.Pairwise.imp_of_mem (λ{x y} C hy k e=> ?_) (h.row c);subst e;have:=h.tm _ (bU.1 C);simp only at this;omega
theorem uj(h:REq (A++(c,x)::B) (A'++(c,x)::B'))(G:TOk (A++(c,x)::B)):REq (A++(c,x')::B) (A'++(c,x')::B'):=λy=>by
 have hy:=h y;have hn:=G.nodup y;rw[dg,dg]at hy⊢;rw[dg]at hn;by_cases e:y=c
 ·rw[if_pos e,if_pos e]at hy⊢;rw[if_pos e]at hn;obtain⟨C,F⟩:=aa7 hy hn;rw[C,F]
 ·rw[if_neg e,if_neg e]at hy⊢;exact hy
theorem eO.of(h:x.un= -1):eO (A++(c,x)::B) c A.length x:=⟨Ad,h⟩
theorem oI(F:TOk R)(C:TOk Q)(h:REq R Q)(a:eO R c k x)(b:eO Q c k' x'):x=x':=by
 have h1:=a.last (F.row c);have h2:=b.last (C.row c);rw[h c,h2]at h1;injection h1 with h1;exact h1.symm
theorem kQ(h:REq R Q)(a:qi R c)(b:eO Q c k x):False:=by
 have h1:(c,x)∈R:=(h.mem _).2 (A0 b.1);obtain⟨i,hi,e⟩:=BK h1;exact a i (c,x) Az ⟨rfl,b.2⟩
theorem DetS.uniq(C:TOk R)(G:TOk Q)(h:REq R Q)(d:DetS R c u R' e)(F:DetS Q c u Q' e'):e=e'/\REq R' Q':=by
 cases d with
 | none h1=>cases F with
  | none _=>exact⟨rfl,h⟩
  | time k1 _=>exact(kQ h h1 k1).elim
  | ok e1 k1 _ _=>subst e1;exact(kQ h h1 (eO.of k1)).elim
 | time h1 h2=>cases F with
  | none k1=>exact(kQ h.symm k1 h1).elim
  | time _ _=>exact⟨rfl,h⟩
  | ok e1 k1 k2 k3=>subst e1;obtain rfl:=oI C G h h1 (eO.of k1);omega
 | ok e1 h1 h2 h3=>subst e1;cases F with
  | none k1=>exact(kQ h.symm k1 (eO.of h1)).elim
  | time k1 k2=>obtain rfl:=oI C G h (eO.of h1) k1;omega
  | ok e1 k1 k2 k3=>subst e1;obtain rfl:=oI C G h (eO.of h1) (eO.of k1);exact⟨rfl,uj h C⟩
theorem SetS.uniq{add:List St->List St×Int}(F:TOk R)(h:REq R Q)(d:SetS add R c a R' e)(C:SetS add Q c a Q' e'):e=e'/\REq R' Q':=by
 have ht:=h.tAt c a
 cases d with
 | none h1=>cases C with
  | none _=>exact⟨rfl,h⟩
  | still k1 _=>rw[h1,k1]at ht;cases ht
  | ok e1 k1 _=>rw[h1,k1]at ht;cases ht
 | still h1 h2=>cases C with
  | none k1=>rw[h1,k1]at ht;cases ht
  | still _ _=>exact⟨rfl,h⟩
  | ok e1 k1 k2=>rw[h1,k1]at ht;injection ht with ht;subst ht;rw[h2]at k2;cases k2
 | ok e1 h1 h2=>cases C with
  | none k1=>rw[h1,k1]at ht;cases ht
  | still k1 k2=>rw[h1,k1]at ht;injection ht with ht;subst ht;rw[h2]at k2;cases k2
  | ok e2 k1 k2=>rw[h1,k1]at ht;injection ht with ht;subst ht;subst e1;subst e2;exact⟨rfl,uj h F⟩
theorem FixS.uniq{ok:Bool}{q:Pq}(C:TOk R)(F:TOk Q)(h:REq R Q)(d:FixS ok q R c R' e)(G:FixS ok q Q c Q' e'):e=e'/\REq R' Q':=by
 cases d with
 | none h1=>cases G with
  | none _=>exact⟨rfl,h⟩
  | state k1 _=>exact(kQ h h1 k1).elim
  | range k1 _ _ _=>exact(kQ h h1 k1).elim
  | ok e1 k1 _ _ _=>subst e1;exact(kQ h h1 (eO.of k1)).elim
 | state h1 h2=>cases G with
  | none k1=>exact(kQ h.symm k1 h1).elim
  | state _ _=>exact⟨rfl,h⟩
  | range k1 k2 k3 _=>obtain rfl:=oI C F h h1 k1;rw[k2,k3]at h2;simp at h2
  | ok e1 k1 k2 k3 _=>subst e1;obtain rfl:=oI C F h h1 (eO.of k1);rw[k2,k3]at h2;simp at h2
 | range h1 h2 h3 h4=>cases G with
  | none k1=>exact(kQ h.symm k1 h1).elim
  | state k1 k2=>obtain rfl:=oI C F h h1 k1;rw[h2,h3]at k2;simp at k2
  | range _ _ _ _=>exact⟨rfl,h⟩
  | ok e1 k1 k2 k3 k4=>rw[h4]at k4;cases k4
 | ok e1 h1 h2 h3 h4=>subst e1;cases G with
  | none k1=>exact(kQ h.symm k1 (eO.of h1)).elim
  | state k1 k2=>obtain rfl:=oI C F h (eO.of h1) k1;rw[h2,h3]at k2;simp at k2
  | range _ _ _ k4=>rw[h4]at k4;cases k4
  | ok e1 k1 _ _ _=>subst e1;obtain rfl:=oI C F h (eO.of h1) (eO.of k1);exact⟨rfl,uj h C⟩
def uk(R:Tr)(c:Nm)(f:Int):Prop:=f<0\/bC<f\/∃x∈lks R c,x.un= -1\/f<x.un
def xm(R:Tr)(c p:Nm):Prop:=∃n,ci (λx=>aC R x\/x=c\/x=p) n/\(24<n\/64<=(lks R c).length)
variable{isN:Nm->Prop}
theorem AttS.cls(h:AttS isN R c p f R' e):(e=5/\R'=R/\¬(isN c/\isN p))\/(e=17/\R'=R/\(isN c/\isN p)/\uk R c f)\/(e=15/\R'=R/\(isN c/\isN p)/\¬uk R c f/\xm R c p)\/
  (e=19/\R'=R/\(isN c/\isN p)/\¬uk R c f/\¬xm R c p/\Cyc R c p f)\/(e=0/\R'=jx R c p f/\(isN c/\isN p)/\¬uk R c f/\¬xm R c p/\¬Cyc R c p f):=by
 have F:0<=f->f<=bC->qi R c->(∀x∈lks R c,x.un<=f)->¬uk R c f:=λh0 h1 h2 h3 ht=>by
  rcases ht with ht | ht | ⟨x,C,ht | ht⟩
  ·omega
  ·omega
  ·obtain⟨i,hi,e⟩:=BK (bU.1 C);exact h2 i (c,x) Az ⟨rfl,ht⟩
  ·have:=h3 x C;omega
 have G:∀n,ci (λx=>aC R x\/x=c\/x=p) n->n<=24/\(lks R c).length<64->¬xm R c p:=λn hn hf ⟨m,H,I⟩=>by
  have:=ci.uniq hn H;omega
 cases h with
 | name h=>exact .inl ⟨rfl,rfl,h⟩
 | time h ht=>
  refine .inr (.inl ⟨rfl,rfl,h,?_⟩);rcases ht with ht | ht | ⟨k,x,ht⟩ | ⟨x,C,ht⟩
  ·exact .inl ht
  ·exact .inr (.inl ht)
  ·exact .inr (.inr ⟨x,bU.2 (A0 ht.1),.inl ht.2⟩)
  ·exact .inr (.inr ⟨x,C,.inr ht⟩)
 | full h h0 h1 h2 h3 n hn hf=>exact .inr (.inr (.inl ⟨rfl,rfl,h,F h0 h1 h2 h3,n,hn,hf⟩))
 | cycle h h0 h1 h2 h3 n hn hf hc=>exact .inr (.inr (.inr (.inl ⟨rfl,rfl,h,F h0 h1 h2 h3,G n hn hf,hc⟩)))
 | ok h h0 h1 h2 h3 n hn hf hc=>exact .inr (.inr (.inr (.inr ⟨rfl,rfl,h,F h0 h1 h2 h3,G n hn hf,hc⟩)))
theorem AttS.uniq(h:REq R Q)(d:AttS isN R c p f R' e)(V:AttS isN Q c p f Q' e'):e=e'/\REq R' Q':=by
 have hT:uk R c f↔uk Q c f:=by unfold uk;rw[h c]
 have hF:xm R c p↔xm Q c p:=by unfold xm;rw[h c];simp only[h.known]
 have Z:Cyc R c p f↔Cyc Q c p f:=h.cyc;have ha:REq (jx R c p f) (jx Q c p f):=λy=>by rw[km,km,h y]
 have P:=d.cls;have Y:=V.cls;rw[hT,hF,Z]at P;generalize uk Q c f=T at *;generalize xm Q c p=F at *;generalize Cyc Q c p f=C at *;generalize (isN c/\isN p)=N at *;rcases P with⟨rfl,rfl,G⟩ | ⟨rfl,rfl,G,I⟩ | ⟨rfl,rfl,G,I,K⟩ | ⟨rfl,rfl,G,I,K,U⟩ | ⟨rfl,rfl,G,I,K,U⟩<;>
 rcases Y with⟨rfl,rfl,H⟩ | ⟨rfl,rfl,H,J⟩ | ⟨rfl,rfl,H,J,b3⟩ | ⟨rfl,rfl,H,J,b3,b4⟩ | ⟨rfl,rfl,H,J,b3,b4⟩<;>
 first
  | exact⟨rfl,h⟩
  | exact⟨rfl,ha⟩
  | (exfalso;contradiction)
theorem DoS.uniq{s:Ax}(F:TOk R)(G:TOk Q)(h:REq R Q)(d:DoS R s R' e)(C:DoS Q s Q' e'):e=e'/\REq R' Q':=by
 unfold DoS at d C;split at d
 ·rename_i h1;rw[if_pos h1]at C;exact d.uniq F G h C
 ·rename_i h1;rw[if_neg h1]at C;split at d
  ·rename_i h2;rw[if_pos h2]at C;exact d.uniq F h C
  ·rename_i h2;rw[if_neg h2]at C;split at d
   ·rename_i h3;rw[if_pos h3]at C;exact d.uniq F G h C
   ·rename_i h3;rw[if_neg h3]at C;exact d.uniq h C
end
end
section
open Classical
theorem DoS.len{R R':Tr}{s:Ax}{e:Int}(d:DoS R s R' e):R'.length<=R.length+1:=by
 unfold DoS at d;split at d
 ·cases d with
  | ok e _ _ _=>subst e;simp
  | _=>exact DR _
 ·split at d
  ·cases d with
   | ok e _ _=>subst e;simp
   | _=>exact DR _
  ·split at d
   ·cases d with
    | ok e _ _ _ _=>subst e;simp
    | _=>exact DR _
   ·cases d with
    | ok _ _ _ _ _ _ _ _ _=>unfold jx;simp
    | _=>exact DR _
theorem edge_req{R Q:Tr}(h:REq R Q)(c:Nm)(a:Int):bv R c a=bv Q c a:=by unfold bv;rw[h.tAt]
end
section
open Classical
section
variable {R Q:Tr} {a:Int} {x y:Nm}
theorem Anc.req(h:REq R Q){l:List Nm}(k:Anc R a x l):Anc Q a x l:=by
 induction k with
 | root e=>exact .root ((h.par ..).symm.trans e)
 | step e _ ih=>exact .step ((h.par ..).symm.trans e) ih
theorem aa8(h:REq R Q)(C:TOk R)(a:Int)(x:Nm):bf R a x=bf Q a x:=(gW ((cR C a x).req h)).symm
theorem meet_req(h:REq R Q)(C:TOk R)(a:Int)(x y:Nm):aF R a x y=aF Q a x y:=by
 unfold aF;simp only[aa8 h C,h.known]
theorem xp(h:REq R Q)(a:Int):∀(l:List Nm)(p:Pq),el R a l p=el Q a l p
 | [],_=>rfl
 | f::l,p=>by
  unfold el;rw[edge_req h,xp h a l]
theorem find_req(h:REq R Q)(C:TOk R)(a:Int)(x y:Nm):aP R a x y=aP Q a x y:=by
 unfold aP upP;simp only[meet_req h C,aa8 h C,xp h]
noncomputable def dU(R:Tr)(a:Int):List Nm->Int
 | []=>0
 | f::l=>if (bv R f a).2=0 then dU R a l else(bv R f a).2
theorem ot:∀(l:List Nm)(p:Pq),(el R a l p).2=dU R a l
 | [],_=>rfl
 | f::l,p=>by
  unfold el dU;split
  ·exact ot l _
  ·rfl
theorem kE(R:Tr)(a:Int)(tq fr:Nm):(aP R a tq fr).2=if (aF R a fr tq).2≠0 then(aF R a fr tq).2 else if dU R a (a8 (bf R a fr) (aF R a fr tq).1)≠0 then dU R a (a8 (bf R a fr) (aF R a fr tq).1)else dU R a (a8 (bf R a tq) (aF R a fr tq).1):=by
 unfold aP upP;rw[ot,ot];split
 ·rfl
 ·split
  ·rfl
  ·split
   ·rfl
   ·rename_i h;simp only[not_not]at h;exact h.symm
def IxS(L:List Nm)(c:Nm)(i:Int):Prop:=(i= -1/\c∉L)\/∃k:Nat,i=(k:Int)/\L[k]? =some c/\a8 L c=L.take k
theorem ix_at{L:List Nm}{c:Nm}{k:Nat}(h:L[k]? =some c)(hn:∀i z,i<k->L[i]? =some z->z≠c):a8 L c=L.take k:=by
 refine mS (λz hz=> ?_) ?_
 ·obtain⟨i,hi⟩:=Di hz;have C:i<k:=by have:=(AX.1 hi).1;rw[A9]at this;omega
  rw[BI,if_pos C]at hi;exact hn i z C hi
 ·obtain⟨A,B,rfl,rfl⟩:=d9 h;exact⟨B,Ad⟩
end
end
section
open Classical
def Nms(w:World)(v:Value)(L:List Nm):Prop:=∃ad cap,v= .slice ad L.length cap/\∀(k:Nat)(x:Nm),L[k]? =some x->∃b o,ad=some ⟨b,o,none⟩/\b<w.heap.size/\w.cell? ⟨b,o+k,none⟩=some (.string x)
variable{w:World}{v:Value}{L:List Nm}
theorem aZ.nms{b:Nat}(h:aZ w b v L):Nms w v L:=by
 obtain⟨ad,cap,rfl⟩:=cL h;refine⟨ad,cap,rfl,λk x C=> ?_⟩;obtain⟨g,e,hc⟩:=cQ (show w.ownsRow b 9 1 (.slice ad L.length cap) L.length (L.map Bb)from h) (show(L.map Bb)[k]? =some (.string x)by rw[Bp,C];rfl);exact⟨g,0,e,(bV h (g:=g) (by rw[e];rfl)).2,by rw[A5];exact hc⟩
theorem Nms.below{w':World}(h:Nms w v L)(k:Bi w.heap.size w w'):Nms w' v L:=by
 obtain⟨ad,cap,rfl,hc⟩:=h;refine⟨ad,cap,rfl,λi x C=> ?_⟩;obtain⟨b,o,e,hb,C⟩:=hc i x C;exact⟨b,o,e,Bt hb k.size,by rw[k.cell (p:=⟨b,_,none⟩) hb];exact C⟩
abbrev nmQ(L:List Nm):List Vp:=L.map λx=>.val (.string x)
theorem aa9(h:(Vp.row 9 L.length (nmQ L)).p w v):Nms w v L:=by
 rcases h with⟨h1,h2,rfl⟩ | ⟨b,o,c,cs,rfl,hn,hb,F⟩
 ·have:L=[]:=CF h2;subst this;exact⟨none,0,rfl,λk x C=>by cases C⟩
 ·refine⟨_,c,rfl,λk x C=> ?_⟩;obtain⟨u,h1,h2,_⟩:=F k (.val (.string x)) (by rw[Bp,C];rfl);have e:u= .string x:=h2.1;subst e;exact⟨b,o,rfl,(AZ.1 hb).1,by rw[aH hb];exact h1⟩
theorem names_row{b:Nat}(h:aZ w b v L):(Vp.row 9 L.length (nmQ L)).p w v:=by
 rcases h.2 with⟨rfl,hl⟩ | ⟨g,cap,cur,rfl,_,I,hn,_,H,F⟩
 ·have:L=[]:=CF hl;subst this;exact .inl ⟨rfl,rfl,rfl⟩
 ·refine .inr ⟨g,0,cap,cur,rfl,hn,I,λj q C=> ?_⟩;obtain⟨x,G,rfl⟩:∃x,L[j]? =some x/\q= .val (.string x):=by
   rw[Bp]at C
   cases G:L[j]? with
   | none=>rw[G]at C;cases C
   | some x=>rw[G]at C;injection C with C;exact⟨x,rfl,C.symm⟩
  have J:=(AX.1 G).1;have h1:(cur.toList.take (L.length*1))[j]? =some (Bb x):=by rw[F,Bp,G];rfl
  rw[List.getElem?_take_of_lt no,Array.getElem?_toList]at h1;exact⟨_,by rw[A5];exact h1,⟨rfl,gi⟩,λ_ h=>h⟩
theorem q_names2{v2:Value}{L2:List Nm}(h:Nms w v L)(h2:Nms w v2 L2)(hL:L.length<=1000)(U:L2.length<=1000):AC AB 62 #[v,v2] w λe w'=>e= .returned (.bool (decide (L=L2)))/\mBw w w':=by
 obtain⟨ad,cap,rfl,hc⟩:=h;obtain⟨ac,aa,rfl,C⟩:=h2;have H:=AA hc;have H2:=AA C;obtain⟨n,hn⟩:∃n,n=L.length:=⟨_,rfl⟩;obtain⟨n2,F⟩:∃n,n=L2.length:=⟨_,rfl⟩;rw[<-hn,<-F];rw[<-hn]at hL;rw[<-F]at U;have HN:=AA hn;have P:=AA F;have hm:(n:Int)<=1000:=no
 clear hc C;by_cases hnn:n=n2
 ·subst hnn;obtain⟨q,hq⟩:∃q,decide (L=L2)=q:=⟨_,rfl⟩;have HQ:=AA hq;rw[hq];clear hn F hq hL U;go_enter Tryz.func62,Tryz.ntmps62
  go_wp2;go_loopw [5] (λs5 wr=>∃k:Nat,k<=n/\s5= .int .i64 (k:Int)/\Hid (mBw w wr)/\Hid (∀j,j<k->L[j]? =L2[j]?)) (λs5 _=>n - (intOf s5).toNat)
  case atStart=>exact⟨0,AY _,rfl,AA (AF _ _),AA (λj h=>absurd h (CX j))⟩
  case round=>
   obtain⟨k,hk,rfl,Y,HE⟩:=hrel;rcases Bc k n with V | ak
   ·obtain⟨x,G⟩:∃x,L[k]? =some x:=⟨_,AJ (by rw[<-HN.out];exact V)⟩;obtain⟨y,hy⟩:∃x,L2[k]? =some x:=⟨_,AJ (by rw[<-P.out];exact V)⟩;obtain⟨g,o,rfl,hg,hc⟩:=H.out k x G;obtain⟨g2,o2,rfl,I,C⟩:=H2.out k y hy;have f1:wr.cell? ⟨g,o+k,none⟩=some (.string x):=by rw[Y.out.cell (p:=⟨g,o+k,none⟩) hg];exact hc
    have f2:wr.cell? ⟨g2,o2+k,none⟩=some (.string y):=by rw[Y.out.cell (p:=⟨g2,o2+k,none⟩) I];exact C
    have K:=AA (show mBw w wr.drew from Y.out.drew);by_cases e:x=y
    ·subst e;have Z:=AA (show∀j,j<k+1->L[j]? =L2[j]? from λj hj=>by
      rcases Bc j k with h | h
      ·exact HE.out j h
      ·obtain rfl:j=k:=no
       rw[G,hy])
     clear G hy hc C hg I;go_wp2;go_region
     go_wp2;go_roundw
     case rel=>exact⟨k+1,no,by go_num,K,Z⟩
     case measure=>simp[intOf];omega
    ·have J:=gU e;have HF:=AA (show q=false from by
      rw[<-HQ.out];exact decide_eq_false (λh=>by rw[h,hy]at G;injection G with G;exact e G.symm))
     clear G hy hc C hg I e;go_wp2;go_region
     go_wp2;go_ret;exact⟨by rw[HF.out];rfl,K.out⟩
   ·obtain rfl:k=n:=no
    have HT:=AA (show q=true from by
     rw[<-HQ.out];refine decide_eq_true (DI (λj=> ?_));rcases Bc j k with h | h
     ·exact HE.out j h
     ·rw[EF (by rw[<-HN.out];exact h),EF (by rw[<-P.out];exact h)])
    go_wp2;go_ret;exact⟨by rw[HT.out];rfl,Y.out⟩
 ·have J:¬L=L2:=λe=>hnn (by rw[hn,F,e])
  rw[decide_eq_false J];have ab:((n:Int)==(n2:Int))=false:=beq_eq_false_iff_ne.2 no;clear J hn F;go_enter Tryz.func62,Tryz.ntmps62
  go_wp2;go_ret;exact⟨rfl,AF _ _⟩
end
section
open Classical
variable {w:World} {g:Nat} {sl:Value} {S:List St}
theorem q_oppR{va vb:Value}{a b:Pq}(ia:aR w va a)(G:aR w vb b)(ha:a.ok 2)(hb:b.ok 2)(C:a.good)(F:b.good):AC AB 207 #[va,vb] w λe w'=>e= .returned (.bool (decide (opp a b)))/\mBw w w':=by
 by_cases h:opp a b
 ·rw[decide_eq_true h];exact q_rop1 va vb a b w ia G (ha.mono it) (hb.mono it) C F h
 ·rw[decide_eq_false h];exact q_rop0 va vb a b w ia G (ha.mono it) (hb.mono it) C F h
theorem q_eqlR{va vb:Value}{a b:Pq}(ia:aR w va a)(C:aR w vb b)(ha:a.ok 2)(hb:b.ok 2):AC AB 45 #[va,vb] w λe w'=>e= .returned (.bool (decide (a=b)))/\mBw w w':=by
 by_cases h:a=b
 ·rw[decide_eq_true h];exact pZ va vb a b w ia C (ha.mono it) (hb.mono it) h
 ·rw[decide_eq_false h];exact zi va vb a b w ia C (ha.mono it) (hb.mono it) h
theorem ownr_nil:(Vp.ownr stT 22 0 []).p w (.slice none 0 0):=⟨[],⟨⟨rfl,.inl Ai⟩,λg C=>by cases C⟩,⟨rfl,λj q h=>Ao⟩⟩
variable{v:Value}
theorem app_own{w0:World}{x:Value}{n M:Nat}{qs C:List Vp}{ty:TypeId}(G:(Vp.ownr stT 22 n qs).p w v)(K:(Vp.row stT M C).p w x)(I:C.length=M*22)(hn:n+M<=1000)(hb:Bi w0.heap.size w0 w)(hf:∀g,v.ownBlock=some g->w0.heap.size<=g):
  ∃v' w',(BM #[183,183] ty #[v,x]).run AB w= .ok v' w'/\mBw w0 w'/\(∀g,v'.ownBlock=some g->w0.heap.size<=g)/\(Vp.ownr stT 22 (n+M) (qs++C)).p w' v':=by
 obtain⟨xs,G,hc⟩:=G;obtain⟨v',w',J,H,_,F,h3⟩:=qc (p:=AB) (ty:=ty) (bytes:=400) Cy Aa G hc K I no no;exact⟨v',w',J,hb.grown H hb.size hf,λg h=>(F g h).elim (hf g) (AD hb.size),h3⟩
theorem kx_sh{n:Nat}{o:Oper}{l:List (Nat×Value)}{a:Act}{x y:AP}{t:TypeId}{F r:Value}(C:Kn n l a)(G:o.op= .slice t x none (some y) none)(H:evK l x=some F)(hy:evK l y=some v)(hr:(Instr.sliceAt t F none (some v) none).run AB w= .ok r w):(execOp a.eval o).run AB w= .ok (.value r) w:=by
 unfold execOp;simp only[G];rw[C.evx H];simp only[BG,Option.map_none];rw[C.evx hy];simp only[AH,hr];rfl
set_option maxHeartbeats 2000000 in
theorem k_rAdd{s:St}(h:TrkS 185 w g sl S)(i:zj w v s)(hs:s.pose.ok 2)(bi:s.pose.rot.comp/\s.pose.pos.good)(hS:GoodS S):AC AB 156 #[ptG g,v] w λe w'=>e= .returned (.int .i64 (fP S s).2)/\TrkM 185 w g sl (fP S s).1 w':=by
 have hn:=hS.len;obtain⟨cs,rfl,I⟩:=i;go_enter Tryz.func156,Tryz.ntmps156
 refine bk 141 [(0,ptG g),(1,.agg (AK .i64 s.tm::cs).toArray)] λC=> ?_
 refine mDn ?_;refine bD ?_;refine vX (qy I) C λ{_ W B} V C=> ?_
 refine sZ C ?_;intro _ C;obtain⟨f1,f2,f3⟩:=V.st I;have hb:=AF W.heap.size W;have hm:=h.mono V.bel;obtain⟨ad,c1,P,f0⟩:=hm.form;have a3:=q_rVal (w:=W) ⟨cs,rfl,I.mono V.bel⟩ hs bi;have ao:∀w',mBw W w'->(S,(4:Int))=fP S s->TrkM 185 w g sl (fP S s).1 w':=λw' hb e=>by
  rw[<-e];exact .keep h (V.bel.trans (hb.mono V.bel.size))
 by_cases h1:s.tm<0
 ·have e:(S,(4:Int))=fP S s:=(if_pos (.inl h1)).symm;refine sX C ?_;intro _ C;refine mCt C ?_;refine sX C ?_;intro _ C;refine mT1 C ?_;exact⟨by rw[<-e],ao _ hb e⟩
 ·by_cases h2:1099511627776<s.tm
  ·have e:(S,(4:Int))=fP S s:=(if_pos (.inr (.inl h2))).symm;refine sX C ?_;intro _ C;refine mCt C ?_;refine sX C ?_;intro _ C;refine mT1 C ?_;exact⟨by rw[<-e],ao _ hb e⟩
  ·refine sA C ?_;intro _ C;refine wC C (ah Tryz.func158 rfl rfl) (a3) λ{e w1} hr=> ?_
   obtain⟨rfl,ap⟩:=hr;refine⟨_,rfl,λ_ C=> ?_⟩;by_cases h3:s.pose.good
   ·have e:fP S s=oP S s:=if_neg (by simp[h1,h2,h3]);rw[decide_eq_true h3]at C;refine sZ C ?_;intro _ C;refine cB C ?_;rw[e];unfold oP;rw[if_neg no];have hx:∀w',mBw W w'->TrkM 185 w g sl S w':=λw' hb=>.keep h (V.bel.trans (hb.mono V.bel.size))
    have ax:∀w',mBw W w'->aR w' (.agg cs.toArray) s.pose:=λw' hb=>⟨cs,rfl,(I.mono V.bel).mono hb⟩
    clear ao a3 e;have hb:=ap;clear ap;refine sX C ?_;intro _ C;refine gA (λa' wr=>Kn 141 [(0,ptG g),(3,.pointer (some ⟨B,0,none⟩)),(5,.int .i64 ((plN S s.tm:Nat):Int))] a'/\mBw W wr) ?_ (λa' wr hI=> ?_)
    ·refine eU (λa' wr=>∃k:Nat,Kn 141 [(0,ptG g),(3,.pointer (some ⟨B,0,none⟩)),(5,.int .i64 (k:Int))] a'/\k<=plN S s.tm/\mBw W wr) (λa' _=>S.length - (intOf (a'.tmps.getD 5 undef)).toNat) ⟨0,C.ct,AY _,hb⟩ (λa' wr hI=> ?_);clear C hb;obtain⟨k,C,bt,hb⟩:=hI;have bz:(intOf (a'.tmps.getD 5 undef)).toNat=k:=by rw[C.gt 5];simp[intOf]
     have hp:=ii S s.tm;rw[bz];subst P;rcases DD bt with G | rfl
     ·obtain⟨x,ak,b8⟩:=eN G;obtain⟨b,o,c2,e,U⟩:=hm.parts (jv ak);injection e with K e2 e3;subst K;subst e3;clear e2;obtain⟨f4,_⟩:=U _ x ak;refine uX C ?_;intro _ C w' H;refine lB C ?_;refine sA C ?_;intro _ C;refine vN C ((k+1:Nat)) λC=> ?_
      refine sD C ?_;intro _ C;refine wln ?_;refine mUp ?_;refine⟨⟨k+1,C.ct,G,Ak⟩,?_⟩;rw[C.gt 5];simp only[intOf];omega
     ·by_cases G:plN S s.tm<S.length
      ·obtain⟨x,ak,b8⟩:=tO G;obtain⟨b,o,c2,e,U⟩:=hm.parts (jv ak);injection e with K e2 e3;subst K;subst e3;clear e2;obtain⟨f4,_⟩:=U _ x ak;refine uX C ?_;intro _ C w' H;refine mCf C ?_;refine mEx ?_;exact⟨C.ct,Ak⟩
      ·refine uX C ?_;intro _ C w' H;refine mCf C ?_;refine mEx ?_;exact⟨C.ct,Ak⟩
    obtain⟨C,ab⟩:=hI;have hp:=ii S s.tm;have hy:∀y,S[plN S s.tm]? =some y->∃b o c,sl= .slice (some ⟨b,o,none⟩) S.length c/\StL W b (o+plN S s.tm*22) y:=λy hy=>by
     obtain⟨b,o,c2,e,U⟩:=hm.parts (jv hy);exact⟨b,o,c2,e,U _ y hy⟩
    refine gA (λa' w'=>Kn 141 [(0,ptG g),(3,.pointer (some ⟨B,0,none⟩)),(5,.int .i64 ((plN S s.tm:Nat):Int))] a'/\mBw W w'/\¬∃y,S[plN S s.tm]? =some y/\y.tm=s.tm) ?_ (λa' w' hI=> ?_)
    ·by_cases G:plN S s.tm<S.length
     ·obtain⟨y,F⟩:∃y,S[plN S s.tm]? =some y:=⟨_,AJ G⟩;obtain⟨b,o,c2,e,f4,cy,Y,f5,f6⟩:=hy y F;subst P;injection e with K e2 e3;subst K;subst e3;clear e2;have gy:=hS.at F;by_cases ey:y.tm=s.tm
      ·refine uX C ?_;intro _ C w' H;refine mCt C ?_;by_cases ep:y.pose=s.pose
       ·rw[if_pos ⟨y,F,ey,ep⟩];refine uA C ?_;intro _ C;refine uC C (.bool true) (ah Tryz.func45 rfl rfl) (λw hb=>by have:=q_eqlR (w:=w) ⟨cy,rfl,Y.mono hb⟩ (ax w hb) gy.ok hs;rwa [decide_eq_true ep]at this) λC=> ?_
        refine wqn (λw' H=> ?_);refine mUp ?_;refine mCt C ?_;refine sX C ?_;intro _ C;refine mT1 C ?_;exact⟨rfl,hx _ Ak⟩
       ·rw[if_neg (by rintro⟨y',h,_,h2⟩;rw[F]at h;injection h with h;subst h;exact ep h2),if_pos ⟨y,F,ey⟩];refine uA C ?_;intro _ C;refine uC C (.bool false) (ah Tryz.func45 rfl rfl) (λw hb=>by have:=q_eqlR (w:=w) ⟨cy,rfl,Y.mono hb⟩ (ax w hb) gy.ok hs;rwa [decide_eq_false ep]at this) λC=> ?_
        refine wqn (λw' H=> ?_);refine mUp ?_;refine cB C ?_;refine sX C ?_;intro _ C;refine mT1 C ?_;exact⟨rfl,hx _ Ak⟩
      ·refine uX C ?_;intro _ C w' H;refine cB C ?_;exact⟨C.ct,Ak,by rintro⟨y',h,h2⟩;rw[F]at h;injection h with h;subst h;exact ey h2⟩
     ·subst P;refine uX C ?_;intro _ C w' H;refine cB C ?_;exact⟨C.ct,Ak,by rintro⟨y',h,h2⟩;exact G (AX.1 h).1⟩
    ·obtain⟨C,hb,ay⟩:=hI;rw[if_neg (by rintro⟨y,h,h2,_⟩;exact ay ⟨y,h,h2⟩),if_neg ay];obtain⟨ob,J⟩:∃ob:Bool,ob=decide ((∃z,0<plN S s.tm/\S[plN S s.tm - 1]? =some z/\opp z.pose s.pose)\/∃y,S[plN S s.tm]? =some y/\opp s.pose y.pose):=⟨_,rfl⟩;have aa:∀ {x y:Pq} {vx vy:Value},aR W vx x->aR W vy y->x.ok 2->y.ok 2->x.good->y.good->∀b,decide (opp x y)=b->∀w',mBw W w'->AC AB 207 #[vx,vy] w' λe w1=>e= .returned (.bool b)/\mBw w' w1:=λix iy hx hy gx gy b e w' hb=>e▸q_oppR (ix.mono hb) (iy.mono hb) hx hy gx gy
     have am:aR W (.agg cs.toArray) s.pose:=⟨cs,rfl,I.mono V.bel⟩;refine gA (λa' w'=>Kn 141 [(0,ptG g),(3,.pointer (some ⟨B,0,none⟩)),(5,.int .i64 ((plN S s.tm:Nat):Int))] a'/\mBw W w'/\ob=false) ?_ (λa' w' hI=> ?_)
     ·refine gA (λa' w'=>Kn 141 [(0,ptG g),(3,.pointer (some ⟨B,0,none⟩)),(5,.int .i64 ((plN S s.tm:Nat):Int)),(111,.bool ob)] a'/\mBw W w') ?_ (λa' w' hI=> ?_)
      ·have a5:(S.length<=plN S s.tm/\∀y,S[plN S s.tm]? ≠some y)\/∃y b o c,plN S s.tm<S.length/\S[plN S s.tm]? =some y/\sl= .slice (some ⟨b,o,none⟩) S.length c/\StL W b (o+plN S s.tm*22) y:=by
        by_cases G:plN S s.tm<S.length
        ·obtain⟨b,o,c,e⟩:=hy _ (AJ G);exact .inr ⟨_,b,o,c,G,AJ G,e⟩
        ·exact .inl ⟨no,λy h=>G (AX.1 h).1⟩
       by_cases h0:0<plN S s.tm
       ·obtain⟨z,hz⟩:∃z,S[plN S s.tm - 1]? =some z:=⟨_,AJ no⟩;obtain⟨b,o,c2,e,U⟩:=hm.parts (jv hz);obtain⟨f4,cz,au,f5,f6⟩:=U _ z hz;have gz:=hS.at hz;subst P;injection e with K e2 e3;subst K;subst e3;clear e2;by_cases oz:opp z.pose s.pose
        ·obtain rfl:ob=true:=J.trans (decide_eq_true (.inl ⟨z,h0,hz,oz⟩));refine uA C ?_;intro _ C;refine uN C ((plN S s.tm - 1:Nat)) λC=> ?_
         refine uD C ?_;intro _ C;refine uC C (.bool true) (ah ER rfl rfl) (λw hb=>aa ⟨cz,rfl,au⟩ am gz.ok hs gz.good h3 _ (decide_eq_true oz) w hb) λC=> ?_
         refine uZ C ?_;intro _ C w' H;exact⟨C.ct,Ak⟩
        ·rcases a5 with⟨h4,h5⟩ | ⟨y,b',o',c',h4,F,e,f7,cy,Y,f8,f9⟩
         ·obtain rfl:ob=false:=J.trans (decide_eq_false (by rintro(⟨z',_,h,h6⟩ | ⟨y,h,_⟩);(rw[hz]at h;injection h with h;subst h;exact oz h6);exact h5 y h));refine uA C ?_;intro _ C;refine uN C ((plN S s.tm - 1:Nat)) λC=> ?_
          refine uD C ?_;intro _ C;refine uC C (.bool false) (ah ER rfl rfl) (λw hb=>aa ⟨cz,rfl,au⟩ am gz.ok hs gz.good h3 _ (decide_eq_false oz) w hb) λC=> ?_
          refine uZ C ?_;intro _ C w' H;exact⟨C.ct,Ak⟩
         ·have gy:=hS.at F;injection e with K e2 e3;injection K with K;injection K with K e4;subst K;subst e4;subst e3;clear e2;obtain rfl:ob=decide (opp s.pose y.pose):=J.trans (decide_eq_decide.2 ⟨by rintro(⟨z',_,h,h6⟩ | ⟨y',h,h6⟩);(rw[hz]at h;injection h with h;subst h;exact absurd h6 oz);(rw[F]at h;injection h with h;subst h;exact h6),λh=>.inr ⟨y,F,h⟩⟩);refine uA C ?_;intro _ C;refine uN C ((plN S s.tm - 1:Nat)) λC=> ?_
          refine uD C ?_;intro _ C;refine uC C (.bool false) (ah ER rfl rfl) (λw hb=>aa ⟨cz,rfl,au⟩ am gz.ok hs gz.good h3 _ (decide_eq_false oz) w hb) λC=> ?_
          refine uD C ?_;intro _ C;refine uC C (_) (ah ER rfl rfl) (λw hb=>aa am ⟨cy,rfl,Y⟩ hs gy.ok h3 gy.good _ rfl w hb) λC=> ?_
          refine uZ C ?_;intro _ C w' H;exact⟨C.ct,Ak⟩
       ·rcases a5 with⟨h4,h5⟩ | ⟨y,b',o',c',h4,F,e,f7,cy,Y,f8,f9⟩
        ·obtain rfl:ob=false:=J.trans (decide_eq_false (by rintro(⟨z',h,_⟩ | ⟨y,h,_⟩);exact h0 h;exact h5 y h));subst P;refine uX C ?_;intro _ C w' H;exact⟨C.ct,Ak⟩
        ·have gy:=hS.at F;subst P;injection e with K e2 e3;subst K;subst e3;clear e2;obtain rfl:ob=decide (opp s.pose y.pose):=J.trans (decide_eq_decide.2 ⟨by rintro(⟨z',h,_⟩ | ⟨y',h,h6⟩);exact absurd h h0;(rw[F]at h;injection h with h;subst h;exact h6),λh=>.inr ⟨y,F,h⟩⟩);refine uA C ?_;intro _ C;refine uC C (_) (ah ER rfl rfl) (λw hb=>aa am ⟨cy,rfl,Y⟩ hs gy.ok h3 gy.good _ rfl w hb) λC=> ?_
         refine uZ C ?_;intro _ C w' H;exact⟨C.ct,Ak⟩
      ·obtain⟨C,hb⟩:=hI
       cases ob with
       | true=>
        rw[if_pos (of_decide_eq_true J.symm)];refine mCt C ?_;refine sX C ?_;intro _ C;refine mT1 C ?_;exact⟨rfl,hx _ hb⟩
       | false=>
        refine cB C ?_;exact⟨C.ct,hb,rfl⟩
     ·obtain⟨C,hb,rfl⟩:=hI;rw[if_neg (of_decide_eq_false J.symm)];clear aa J ay ax;subst P;have av:=(AZ.1 h.blk).1;obtain⟨p,b1⟩:∃p,plN S s.tm=p:=⟨_,rfl⟩;rw[b1]at C hp⊢;refine sX C ?_;intro _ C;refine sA C ?_;intro _ C;obtain⟨y1,b9,hr1,_⟩:=run_slTo (p:=AB) (t:=183) (w:=w') Cy Aa (hm.mono hb).row hp;refine wY C y1 (kx_sh C rfl rfl rfl b9) λC=> ?_
      obtain⟨v2,w2,a7,aq,bp,bO⟩:=app_own (ty:=183) ownr_nil hr1 (by rw[d7,A9,Fp hp]) no hb (λg h=>by cases h);refine wW C v2 w2 (jT C rfl rfl rfl a7) λC=> ?_
      clear hb ab;refine sZ C ?_;intro _ C;refine sA C ?_;intro _ C;have V3:=VB.new w2 stT (AK .i64 s.tm::cs).toArray (by simpa using qy I);refine wW C _ _ (ij C rfl rfl (aaZ (by rw[aE I];rfl))) λC=> ?_
      have ab:=aq.trans (V3.bel.mono aq.size);obtain⟨v4,w4,bb,ar,bq,b0⟩:=app_own (ty:=183) (Vp.mono bO V3.bel) (aa0 V3.blk ((I.mono V.bel).mono ab)) rfl no ab bp;refine wW C v4 w4 (jT C rfl rfl rfl bb) λC=> ?_
      clear aq ab;refine sZ C ?_;intro _ C;refine sA C ?_;intro _ C;obtain⟨y5,ca,b2,_⟩:=qe (p:=AB) (t:=183) (w:=w4) Cy Aa (hm.mono ar).row hp;refine wY C y5 (kx_sf C rfl rfl rfl ca) λC=> ?_
      obtain⟨v6,w6,be,a0,a2,Z⟩:=app_own (ty:=183) b0 b2 (by rw[d7,CB]) no ar bq;refine wW C v6 w6 (jT C rfl rfl rfl be) λC=> ?_
      rw[show 0+p+1+(S.length - p)=(fC S p s).length by rw[iL hp];omega,show []++bB (S.take p)++s.qs++bB (S.drop p)=bB (fC S p s)by simp[bB,fC]]at Z;obtain⟨a6,c6,rfl⟩:=ja (gr Z);have cb:=iL (s:=s) hp;have a1:=V.bel.trans (a0.mono V.bel.size);have an:=(a0.block g (Bt av V.bel.size)).trans hm.blk;clear ar;refine sZ C ?_;intro _ C;by_cases h64:S.length<64
      ·rw[if_pos h64];obtain⟨hM,_⟩:=TrkM.set (sl:=.slice ad S.length c1) av (Ent.kept.refl.below a1) an (λn e=>by cases e) (gr Z) (λb hb=>⟨AD V.bel.size (a2 b hb),tN Z b hb⟩);refine sX C ?_;intro _ C;refine cB C ?_;refine sA C ?_;intro _ C;refine wT C (_) (hr:=pa an) λC=> ?_
       refine wln ?_;refine mUp ?_;refine sX C ?_;intro _ C;refine mT1 C ?_;exact⟨rfl,hM⟩
      ·rw[if_neg h64];obtain⟨y,hy,ac,a4⟩:=qe (p:=AB) (t:=183) (k:=1) Cy Aa (gr Z) no;rw[<-CB]at ac;obtain⟨hM,_⟩:=TrkM.set (sl:=.slice ad S.length c1) av (Ent.kept.refl.below a1) an (λn e=>by cases e) ac (λb hb=>⟨AD V.bel.size (a2 b (a4 b hb)),tN Z b (a4 b hb)⟩);obtain⟨a9,c9,rfl⟩:=ja ac;refine sX C ?_;intro _ C;refine mCt C ?_;refine sA C ?_;intro _ C;refine wY C _ (kx_sf C rfl rfl rfl hy) λC=> ?_
       refine sZ C ?_;intro _ C;refine sA C ?_;intro _ C;refine wT C (_) (hr:=pa an) λC=> ?_
       refine wln ?_;refine mUp ?_;refine sX C ?_;intro _ C;refine mT1 C ?_;exact⟨rfl,hM⟩
   ·have e:(S,(4:Int))=fP S s:=(if_pos (.inr (.inr h3))).symm;rw[decide_eq_false h3]at C;refine sZ C ?_;intro _ C;refine mCt C ?_;refine sX C ?_;intro _ C;refine mT1 C ?_;exact⟨by rw[<-e],ao _ ap e⟩
end
section
open Classical
variable{w:World}{v:Value}{L:List Nm}
theorem Nms.form(h:Nms w v L):∃ad cap,v= .slice ad L.length cap:=by
 obtain⟨ad,cap,e,_⟩:=h;exact⟨ad,cap,e⟩
theorem Nms.ld{ad:Option AU}{n cap:Nat}(h:Nms w (.slice ad n cap) L){k:Nat}{x:Nm}(H:L[k]? =some x):∃b o,ad=some ⟨b,o,none⟩/\LdB w 9 (.pointer (some ⟨b,o+(k:Int).toNat*1,none⟩)) (.string x):=by
 obtain⟨F,C,e,hc⟩:=h;injection e with G J K;subst G;obtain⟨b,o,e,hb,I⟩:=hc k x H;exact⟨b,o,e,.one Aa hb (by rw[Int.toNat_natCast,Nat.mul_one];exact I)⟩
theorem bi_seq{x y:Nm}{X Y:AP}{b:Bool}(h:decide (x=y)=b):(do eqGuard .eql 9 X Y (.string x) (.string y);binOp .eql 9 (.string x) (.string y):Sem Value).run AB w= .ok (.bool b) w:=by
 by_cases e:x=y
 ·have C:=kP e;rw[decide_eq_true e]at h;subst h;clear e;go_simp
 ·have C:=gU e;rw[decide_eq_false e]at h;subst h;clear e;go_simp
theorem bi_sne{x y:Nm}{X Y:AP}{b:Bool}(h:decide (x≠y)=b):(do eqGuard .neq 9 X Y (.string x) (.string y);binOp .neq 9 (.string x) (.string y):Sem Value).run AB w= .ok (.bool b) w:=by
 by_cases e:x=y
 ·have C:=kP e;rw[decide_eq_false Av]at h;subst h;clear e;go_simp
 ·have C:=gU e;rw[decide_eq_true e]at h;subst h;clear e;go_simp
theorem qJ(h:Nms w v L)(c:Nm)(hn:L.length<=1000):AC AB 120 #[v,.string c] w λe w'=>∃i,e= .returned (.int .i64 i)/\IxS L c i/\mBw w w':=by
 obtain⟨ad,cap,rfl⟩:=h.form;have hb:=AF w.heap.size w;go_enter Tryz.func120,Tryz.ntmps120
 refine bk 19 [(0,.slice ad L.length cap),(1,.string c)] λC=> ?_
 refine sX C ?_;intro _ C;refine sX C ?_;intro _ C
 ·refine eU (λa wr=>∃k:Nat,Kn 19 [(0,.slice ad L.length cap),(1,.string c),(5,.int .i64 (k:Int))] a/\k<=L.length/\wr=w/\∀i z,i<k->L[i]? =some z->z≠c) (λa _=>L.length - (intOf (a.tmps.getD 5 undef)).toNat) ⟨0,C.ct,AY _,rfl,λi z hi=>absurd hi (CX _)⟩ (λa wr K=> ?_);clear C;obtain⟨k,C,I,rfl,F⟩:=K;have J:(intOf (a.tmps.getD 5 undef)).toNat=k:=by rw[C.gt 5];simp[intOf]
  rw[J];rcases DD I with G | rfl
  ·obtain⟨x,H⟩:∃x,L[k]? =some x:=⟨_,AJ G⟩;obtain⟨b,o,rfl,f1⟩:=h.ld H;by_cases hc:x=c
   ·subst hc;refine sX C ?_;intro _ C;refine lB C ?_;refine sA C ?_;intro _ C;refine wB C (.bool true) (hr:=bi_seq (decide_eq_true rfl)) λC=> ?_
    refine wln ?_;refine mUp ?_;refine mCt C ?_;refine sX C ?_;intro _ C;refine mT1 C ?_;exact⟨_,rfl,.inr ⟨k,rfl,H,ix_at H F⟩,AF _ _⟩
   ·refine sX C ?_;intro _ C;refine lB C ?_;refine sA C ?_;intro _ C;refine wB C (.bool false) (hr:=bi_seq (decide_eq_false hc)) λC=> ?_
    refine wln ?_;refine mUp ?_;refine cB C ?_;refine sA C ?_;intro _ C;refine vN C ((k+1:Nat)) λC=> ?_
    refine sD C ?_;intro _ C;refine wln ?_;refine mUp ?_;refine⟨⟨k+1,C.ct,G,rfl,λi z hi hz=> ?_⟩,?_⟩
    ·rcases Bc i k with h1 | h1
     ·exact F i z h1 hz
     ·obtain rfl:i=k:=no
      rw[H]at hz;injection hz with hz;subst hz;exact hc
    ·rw[C.gt 5];simp only[intOf];omega
  ·refine sX C ?_;intro _ C;refine mCf C ?_;refine mEx ?_;refine sX C ?_;intro _ C;refine mT1 C ?_;exact⟨_,rfl,.inl ⟨rfl,λP=>(Di P).elim λi hi=>F i c (AX.1 hi).1 hi rfl⟩,AF _ _⟩
structure SR(w0 w:World)(v:Value)(l:List Nm):Prop where
 own:SRow w v l
 ge:∀g,v.ownBlock=some g->w0.heap.size<=g
 bel:mBw w0 w
section
variable {w0 w w':World} {v:Value} {l M:List Nm}
theorem SR.nil(h:Bi w0.heap.size w0 w):SR w0 w (.slice none 0 0) []:=⟨⟨Dv _ _ _ _,λg C=>by cases C⟩,λg C=>(by cases C),h⟩
theorem SR.mono(h:SR w0 w v l)(k:Bi w.heap.size w w'):SR w0 w' v l:=⟨h.own.keep (λg C=>k.block g (bV h.own.1 C).2),h.ge,h.bel.trans (k.mono h.bel.size)⟩
theorem SR.nms(h:SR w0 w v l):Nms w v l:=aZ.nms (b:=0) h.own.1
theorem SR.app(h:SR w0 w v l){a:AU}{m c:Nat}{ty:TypeId}(G:M.length=m)(h0:0<m)(hl:l.length+m<=2000000)(C:∀j u,(M.map Bb)[j]? =some u->w.cell? (a.add j)=some u):
  ∃v' w',(BM #[68,68] ty #[v,.slice (some a) m c]).run AB w= .ok v' w'/\SR w0 w' v' (l++M):=by
 obtain⟨v',w',H,k2,k3,I⟩:=jY (p:=AB) (ty:=ty) (c:=c) (m:=m) (sz:=1) (bytes:=16) DE Aa h.own Aw C (λu F=>by obtain⟨x,_,rfl⟩:=Ba.1 F;rfl) (λu F=>by obtain⟨x,_,rfl⟩:=Ba.1 F;exact mW _) h0 no no;refine⟨v',w',H,⟨?_,λg C=>(k3 g C).elim (h.ge g) (AD h.bel.size),h.bel.grown k2 h.bel.size h.ge⟩⟩;show aX w' _ 1 v' (l++M).length _;rw[Bh,Ce,G];exact I
theorem aba(w:World)(x:Nm):(DU 68 1 #[(0,.string x)]).run AB w= .ok (.slice (some ⟨w.heap.size,0,none⟩) 1 1) (w.alloc (.cells #[.string x] 9)):=Ah
theorem SR.one(h:Bi w0.heap.size w0 w)(x:Nm):SR w0 (w.alloc (.cells #[.string x] 9)) (.slice (some ⟨w.heap.size,0,none⟩) 1 1) [x]:=
 ⟨⟨⟨rfl,.inr ⟨w.heap.size,1,#[.string x],rfl,AY _,Bm w _,AE _,it,rfl,rfl⟩⟩,λg C=>by
  obtain rfl:w.heap.size=g:=A3.inj C;exact jf (Bm w _) (λu F=>by simp at F;subst F;exact mW _)⟩,λg C=>by
  obtain rfl:w.heap.size=g:=A3.inj C;exact h.size,h.alloc h.size _⟩
variable {n d e:Nat} {o p:Oper} {ks:List (Nat×Value)} {a:Act} {X Y:AP} {ops:Array Oper} {rest:List Oper} {Q:Exit->Act->World->Prop} {x:Nm}
theorem vApp(S:SR w0 w v l)(hl:l.length<=1000000)(C:Kn n ks a)(h:∀ {a' w' v'},SR w0 w' v' (l++ [x])->Kn n ((e,v')::(d,.slice (some ⟨w.heap.size,0,none⟩) 1 1)::ks) a'->wpList AB ops Q rest a' w')
  (h1:o.op= .buildSlice 68 1 #[(0,X)]:=by rfl)(h2:evK ks X=some (.string x):=by rfl)(h3:o.dst=some d:=by rfl)(G:d<n:=by decide)(H:o.guard=none:=by rfl)
  (K:p.op= .call {callee:=.builtin .append,args:=#[Y,.tmp d],argTypes:=#[68,68]}:=by rfl)(k2:evK ((d,.slice (some ⟨w.heap.size,0,none⟩) 1 1)::ks) Y=some v:=by rfl)(k3:p.dst=some e:=by rfl)(P:e<n:=by decide)(U:p.guard=none:=by rfl):wpList AB ops Q (o::p::rest) a w:=by
 refine wl (fD H) C h3 G (ij C h1 h2 (aba w x)) λ_ C=> ?_
 have I:=S.mono ((AF _ w).alloc (AE _) (.cells #[.string x] 9));obtain⟨v',w',J,S'⟩:=I.app (M:=[x]) (a:=⟨w.heap.size,0,none⟩) (m:=1) (c:=1) (ty:=p.type) rfl it no (λj u F=>by
  cases j with
  | zero=>simp at F;subst F;exact(by rw[bM,aH (Bm w _)];rfl)
  | succ j=>simp at F)
 exact wl (fD U) C k3 P (jT C K k2 (by simp[evK,look]) J) λ_ C=>h S' C
end
theorem xq{t:Nat}{L:List Rl}(h:RM w t v L)(I:Sane (trR L))(x:Nm)(a:Int)(hn:L.length<=1000000):AC AB 63 #[ptB t,.string x,.int .i64 a] w λe w'=>∃v',e= .returned v'/\SR w w' v' (bf (trR L) a x):=by
 have H:=jp I a x;have G:=cR I.ok a x;obtain⟨l,hl⟩:∃l,bf (trR L) a x=l:=⟨_,rfl⟩;rw[hl]at H G⊢;clear hl;have hb:=AF w.heap.size w;go_enter Tryz.func63,Tryz.ntmps63
 refine bk 33 [(0,ptB t),(1,.string x),(2,.int .i64 a)] λC=> ?_
 refine sX C ?_;intro _ C;refine sA C ?_;intro _ C;have S:=SR.one hb x;refine wW C (.slice (some ⟨w.heap.size,0,none⟩) 1 1) (w.alloc (.cells #[.string x] 9)) (ij C rfl rfl (aba w x)) λC=> ?_
 refine sZ C ?_;intro _ C;generalize w.alloc (.cells #[.string x] 9)=w1 at *;generalize D9 (some ⟨w.heap.size,0,none⟩) 1 1=v1 at *;refine sX C ?_;intro _ C;refine eU (λb wr=>∃(k:Nat)(y:Nm)(u:Value)(r:List Nm),Kn 33 [(0,ptB t),(1,.string y),(2,.int .i64 a),(7,u),(8,.int .i64 (k:Int))] b/\SR w wr u (l.take k++ [y])/\Anc (trR L) a y r/\l.take k++r=l/\k<24) (λb _=>24 - (intOf (b.tmps.getD 8 undef)).toNat) ⟨0,x,v1,l,C.ct,S,G,rfl,it⟩ (λb wr V=> ?_);clear C S hb;obtain⟨k,y,u,r,C,S,K,F,U⟩:=V;have J:(intOf (b.tmps.getD 8 undef)).toNat=k:=by rw[C.gt 8];simp[intOf]
 rw[J];refine sX C ?_;intro _ C;refine lB C ?_;refine sA C ?_;intro _ C;refine wC C (ah Tryz.func40 rfl rfl) (q_ParentR (h.below S.bel) I.ok y a hn) λ{e w2} K=> ?_
 obtain⟨rfl,P⟩:=K;have S:=S.mono P;clear P;refine⟨_,rfl,λ_ C=> ?_⟩;refine sZ C ?_;intro _ C
 cases K with
 | root hp=>
  rw[hp]at C;refine sX C ?_;intro _ C;refine mCt C ?_;refine sX C ?_;intro _ C;refine mT1 C ?_;exact⟨_,rfl,by rw[<-F];exact S⟩
 | @step _ z r' hp ht=>
  have hz:pOf (trR L) a y=z:=by unfold pOf;rw[hp];rfl
  rw[hz,hp]at C;have Z:k<l.length:=by
   have:=congrArg DP F;rw[Bh,A9,Bg]at this;omega
  refine sX C ?_;intro _ C;refine cB C ?_;refine sA C ?_;intro _ C;refine vApp S (by rw[Bh,A9];simp;omega) C λ{_ w3 v3} S C=> ?_
  refine sZ C ?_;intro _ C;refine sX C ?_;intro _ C;refine sA C ?_;intro _ C;refine vN C ((k+1:Nat)) λC=> ?_
  refine sD C ?_;intro _ C;refine wln ?_;refine mUp ?_;have h1:l.take (k+1)=l.take k++ [y]:=by
   conv=>lhs;rw[<-F]
   rw[List.take_append,List.take_take,A9,show k+1 - min k l.length=1 by omega,Nat.min_eq_right (DR k)];rfl
  obtain⟨r2,rfl⟩:=ht.head;refine⟨⟨k+1,z,v3,_,C.ct,by rw[h1];exact S,ht,by rw[h1,List.append_assoc];exact F,?_⟩,?_⟩
  ·have:=congrArg DP F;rw[Bh,A9,Bg,Bg]at this;omega
  ·rw[C.gt 8];simp only[intOf];omega
theorem com_at{l m:List Nm}{k:Nat}{z:Nm}(hz:l[k]? =some z)(C:∀u∈l.take k,u∉m)(F:z∈m):fv l m=some z:=by
 obtain⟨A,B,rfl,rfl⟩:=d9 hz;have h:A.find? (λz=>decide (z∈m))=none:=CW.2 (λu G=>by simpa using C u Aw);unfold fv;rw[List.find?_append,h];simp[F]
theorem sL{t:Nat}{L:List Rl}(h:RM w t v L)(hR:Sane (trR L))(x y:Nm)(a:Int)(hn:L.length<=1000000):AC AB 61 #[ptB t,.string x,.string y,.int .i64 a] w λe w'=>e= .returned (.tuple #[.string (aF (trR L) a x y).1,.bool (decide ((aF (trR L) a x y).2=0))])/\mBw w w':=by
 have hb:=AF w.heap.size w;go_enter Tryz.func61,Tryz.ntmps61
 refine bk 48 [(0,ptB t),(1,.string x),(2,.string y),(3,.int .i64 a)] λC=> ?_
 refine sX C ?_;intro _ C;refine sA C ?_;intro _ C;refine wC C (ah EU rfl rfl) (gG h x hn) λ{e w1} H=> ?_
 obtain⟨rfl,rfl⟩:=H;refine⟨_,rfl,λ_ C=> ?_⟩;by_cases hx:aC (trR L) x
 ·rw[decide_eq_true hx]at C;refine sD C ?_;intro _ C;refine wC C (ah EU rfl rfl) (gG h y hn) λ{e w1} H=> ?_
  obtain⟨rfl,rfl⟩:=H;refine⟨_,rfl,λ_ C=> ?_⟩;by_cases hy:aC (trR L) y
  ·rw[decide_eq_true hy]at C;refine sZ C ?_;intro _ C;refine cB C ?_;refine sA C ?_;intro _ C;refine wC C (ah Tryz.func63 rfl rfl) (xq h hR x a hn) λ{e w1} H=> ?_
   obtain⟨v1,rfl,P⟩:=H;have Z:=P.bel;refine⟨_,rfl,λ_ C=> ?_⟩;refine sD C ?_;intro _ C;refine wC C (ah Tryz.func63 rfl rfl) (xq (h.below Z) hR y a hn) λ{e w2} H=> ?_
   obtain⟨v2,rfl,V⟩:=H;have J:=V.bel;refine⟨_,rfl,λ_ C=> ?_⟩;refine sZ C ?_;intro _ C;have P:=P.nms.below J;have V:=V.nms;have l1:=jp hR a x;have l2:=jp hR a y;have F:aF (trR L) a x y=(match fv (bf (trR L) a x) (bf (trR L) a y)with | some z=>(z,0) | none=>(BW,18)):=by unfold aF;exact if_pos ⟨hx,hy⟩
   have J:=Z.trans (J.mono Z.size);generalize bf (trR L) a x=l at *;generalize bf (trR L) a y=m at *;obtain⟨ad,cap,rfl⟩:=P.form;clear hb Z;have hb:=AF w2.heap.size w2;refine sX C ?_;intro _ C
   ·refine eU (λb wr=>∃k:Nat,Kn 48 [(10,.slice ad l.length cap),(11,v2),(12,.int .i64 (k:Int))] b/\mBw w2 wr/\k<=l.length/\∀z∈l.take k,z∉m) (λb _=>l.length - (intOf (b.tmps.getD 12 undef)).toNat) ⟨0,C.ct,hb,AY _,λz hz=>by simp at hz⟩ (λb wr hI=> ?_);clear C hb;obtain⟨k,C,hb,aa,K⟩:=hI;have ab:(intOf (b.tmps.getD 12 undef)).toNat=k:=by rw[C.gt 12];simp[intOf]
    rw[ab];rcases DD aa with U | rfl
    ·obtain⟨z,hz⟩:∃z,l[k]? =some z:=⟨_,AJ U⟩;obtain⟨b',o,rfl,f1⟩:=P.ld hz;refine sX C ?_;intro _ C;refine lB C ?_;refine sA C ?_;intro _ C;refine wC C (ah Tryz.func120 rfl rfl) (qJ (V.below hb) z no) λ{e w3} H=> ?_
     obtain⟨i,rfl,hi,G⟩:=H;have G:=hb.trans (G.mono hb.size);clear hb;have hb:=G;clear G;refine⟨_,rfl,λ_ C=> ?_⟩;rcases hi with⟨rfl,hi⟩ | ⟨j,rfl,hj,_⟩
     ·refine sZ C ?_;intro _ C;refine cB C ?_;refine sA C ?_;intro _ C;refine vN C ((k+1:Nat)) λC=> ?_
      refine sD C ?_;intro _ C;refine wln ?_;refine mUp ?_;refine⟨⟨k+1,C.ct,hb,U,λu I=> ?_⟩,?_⟩
      ·rw[El,hz]at I;rcases AG.1 I with I | I
       ·exact K u I
       ·obtain rfl:u=z:=by simpa using I
        exact hi
      ·rw[C.gt 12];simp only[intOf];omega
     ·rw[com_at hz K (A0 hj)]at F;refine sZ C ?_;intro _ C;refine mCt C ?_;refine sX C ?_;intro _ C;refine mT2 C ?_;exact⟨by rw[F];rfl,J.trans (hb.mono J.size)⟩
    ·refine sX C ?_;intro _ C;refine mCf C ?_;refine mEx ?_;rw[show fv l m=none from CW.2 λu I=>by simpa using K u (by rw[EN];exact I)]at F;refine sX C ?_;intro _ C;refine mT2 C ?_;exact⟨by rw[F];rfl,J.trans (hb.mono J.size)⟩
  ·rw[decide_eq_false hy]at C;have F:aF (trR L) a x y=(BW,6):=by unfold aF;rw[if_neg (λh=>hy h.2)]
   refine sZ C ?_;intro _ C;refine mCt C ?_;refine sX C ?_;intro _ C;refine mT2 C ?_;exact⟨by rw[F];rfl,hb⟩
 ·rw[decide_eq_false hx]at C;have F:aF (trR L) a x y=(BW,6):=by unfold aF;rw[if_neg (λh=>hx h.1)]
  refine sZ C ?_;intro _ C;refine mCt C ?_;refine sX C ?_;intro _ C;refine mT2 C ?_;exact⟨by rw[F];rfl,hb⟩
end
end Go.Proofs.YtggfmklppkioeaaGreat
