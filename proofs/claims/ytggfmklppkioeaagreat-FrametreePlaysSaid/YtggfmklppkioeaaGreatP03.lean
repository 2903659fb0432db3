/- A region that draws its order: a set of operations that each make a value and only add to the world, in whatever order. Nat variables in memory; the copy of a row in a region that draws its order. The contract of DivMod: the divisor 0, a divisor greater than the number, one digit. The mathematics of the long division. The contract of DivMod: the long division. The contract of DivMod. The contract of Gcd. The reference's Same, Valid; Few. Rows of digits that grow by append. The contract of natural.Parse. -/
import Derived.Test.YtggfmklppkioeaaGreatP02
import Derived.WalkKit
import Derived.Deep.RegionWith
import Derived.Below
import Derived.Deep.RegionLawGrows
import Derived.Deep.CutBlock
namespace Go.Proofs.YtggfmklppkioeaaGreat
set_option linter.unusedSimpArgs false
set_option linter.unusedVariables false
set_option maxRecDepth 100000
open Go.RowKit
open _root_.Go renaming Addr → A2,Calls → AH,Operand → AZ,bodyPost_ret → A6,cell_of_row → CB,frozen_of_row → Dh,heap_setCell_same → CH,wpAny_done → CL,wpAny_ready → BT,wpAny_take → Be,wpOp_step → C8,wp_region_any → Di
open _root_.Go.RowKit renaming Below → AG
open _root_.Go.Act renaming put → AN
open _root_.Go.AllReady renaming cons → BI,nil → BS
open _root_.And renaming intro → Ba
open _root_.Array renaming getElem?_eq_getElem → DQ,getElem?_eq_some_iff → A8
open _root_.Go.RowKit.Below renaming heap_setCell → CD,refl → AL
open _root_.Bool renaming and_eq_true → Bo,or_eq_true → DP
open _root_.Go.Builtin renaming append_ → Ca
open _root_.Classical renaming byContradiction → DD
open _root_.Go.IntKind renaming i64 → Bd,u64 → BD,wrap_i64 → BQ
open _root_.Go.Lib renaming hid → AF
open _root_.List renaming all_eq_true → Cd,foldl_cons → Cb,foldl_nil → Cg,getElem?_eq_some_iff → A5,getElem?_take → BP,map_congr_left → Ea,map_map → CG,mem_append → AJ,mem_cons → A3,mem_map → Bi,nodup_cons → Bv,nodup_iff_pairwise_ne → FC,pairwise_map → C0,range → BO,setIfInBounds_toArray → AQ,set_cons_succ → AS,set_cons_zero → AR
open _root_.Nat renaming add_mul → CZ,add_zero → CM,div_add_mod → Ce,div_div_eq_div_mul → CQ,div_eq_of_lt → Cw,div_lt_iff_lt_mul → Cm,eq_zero_or_pos → Dm,gcd → AM,le_div_iff_mul_le → DL,le_refl → AK,le_trans → AI,lt_log2_self → E6,lt_of_lt_of_le → Bt,lt_or_ge → Bl,lt_trans → Dl,mod_eq_of_lt → Cl,mod_lt → Bs,mod_one → Cx,mul_add → Cr,mul_assoc → Dk,mul_comm → Cn,mul_le_mul_left → CY,mul_le_mul_right → C9,mul_lt_mul_of_pos_right → FB,mul_pos → Ed,mul_zero → CR,pow_add → BY,pow_pos → D5,pow_succ → BL,pow_succ' → ED,pow_zero → Dy,zero_add → Bh,zero_le → Bc
open _root_.Option renaming some → A9
open _root_.Or renaming inl → A1
open _root_.Go.Region renaming ready → BV,wanted → A7
open _root_.Go.Result renaming andThen → AX
open _root_.Go.Proofs.Tryz renaming prog → AE,underlying29 → Eb
open _root_.Go.Value renaming int → AW
open _root_.Go.World renaming cell?_of_block → BM,cell?_setCell_other → FD,cell?_setCell_same → Ec,drew → Cy,size_alloc → CE
section
variable {P:Program} {ops:Array Oper} {Q:Exit->Act->World->Prop} {md:Region.Mode}
variable{d:Option Tmp}{fuel:Nat}{C:Array Bool}{a:Act}{w:World}
theorem gh{i:Nat}{G:Oper}{v:Value}(hi:ops[i]? =some G)(I:G.dst=d)
  (hs:Region.noSelect ops=true)(hf:Region.free md ops C i=true)(hr:(BV md ops C).contains i=true)
  (H:∀c a w,Q (.panic c) (a.put d v) w->Q (.panic c) a w)(hy:Yields P ops G v a)
  (h:wpAny P md ops Q fuel (C.setIfInBounds i true) (a.put d v) w):wpAny P md ops Q (fuel+1) C a w:=by
 subst I;exact Be hi hs hf hr H hy h
theorem ec{i t:Nat}{H:Oper}{v:Value}(hi:ops[i]? =some H)(K:H.dst=d)(hit:i<t)(G:fJ H=true)
  (I:C.size=ops.size)(hf:vH md ops C i t=true)(hr:(BV md ops C).contains i=true)
  (J:∀c a w,Q (.panic c) (a.put d v) w->Q (.panic c) a w)(hy:mi P ops H v a w)
  (h:wpAny P md ops Q fuel (C.setIfInBounds i true) (a.put d v) w):wpAny P md ops Q (fuel+1) C a w:=by
 subst K;exact cT hi hit G I hf hr J hy h
def cf(ops:Array Oper)(i:Nat):Option Tmp:=match ops[i]? with | some o=>o.dst | none=>none
def dE(ops:Array Oper)(S:List Nat)(f:Nat->Value)(a:Act):Act:=S.foldl (λa i=>a.put (cf ops i) (f i)) a
def nD(f:Nat->Value)(j:Nat)(v:Value):Nat->Value:=λi=>if i=j then v else f i
def cg(md:Region.Mode)(ops:Array Oper)(j:Nat):List Nat:=match ops[j]? with | some o=>(o.after.toList.filter (Region.binds md)).map (·.on) | none=>[]
def needs(md:Region.Mode)(ops:Array Oper):Nat->Nat->List Nat
 | 0,j=>cg md ops j
 | n+1,j=>cg md ops j++(cg md ops j).flatMap (needs md ops n)
def blk:Value->Nat | .pointer (some a)=>a.block | _=>0
theorem dc(i:Nat)(S:List Nat)(f:Nat->Value)(a:Act):dE ops (i::S) f a=dE ops S f (a.put (cf ops i) (f i)):=rfl
variable{S:List Nat}
theorem tH{f g:Nat->Value}(h:∀i∈S,f i=g i)(a:Act):dE ops S f a=dE ops S g a:=by
 induction S generalizing a with
 | nil=>rfl
 | cons i S ih=>rw[dc,dc,h i Ag,ih (λk C=>h k (by simp[C]))]
theorem put_put(a:Act)(d:Option Tmp)(u v:Value):(a.put d u).put d v=a.put d v:=by
 cases d<;>simp[AN]
theorem yg(H:∀i∈S,cf ops i≠d)(G:∀i∈S,cf ops i≠none)(f:Nat->Value)(v:Value)(a:Act):
  (dE ops S f a).put d v=dE ops S f (a.put d v):=by
 induction S generalizing a with
 | nil=>rfl
 | cons i S ih=>
  rw[dc,dc,ih (λk C=>H k (by simp[C])) (λk C=>G k (by simp[C]))]
  congr 1
  have h1:=H i Ag
  cases hdi:cf ops i with
  | none=>exact absurd hdi (G i Ag)
  | some t=>
   cases d with
   | none=>rfl
   | some d=>
    have:t≠d:=λh=>h1 (by rw[hdi,h])
    simp only[AN];rw[Array.setIfInBounds_comm _ _ this]
variable{j:Nat}
theorem yi(hn:(S.map (cf ops)).Nodup)(J:∀i∈S,cf ops i≠none)(f:Nat->Value)(v:Value)(a:Act)(K:j∈S):
  (dE ops S f a).put (cf ops j) v=dE ops S (nD f j v) a:=by
 induction S generalizing a with
 | nil=>cases K
 | cons i S ih=>
  rw[List.map_cons,Bv]at hn;rw[dc,dc];by_cases hji:j=i
  ·subst hji;have C:∀k∈S,cf ops k≠cf ops j:=λk G h=>hn.1 (by rw[<-h];exact List.mem_map_of_mem G)
   rw[yg C (λk G=>J k (by simp[G])),put_put];have H:nD f j v j=v:=by simp[nD]
   rw[H];refine tH (λk G=> ?_) _;have:k≠j:=λh=>C k G (by rw[h])
   simp[nD,this]
  ·have I:j∈S:=by
    rcases A3.1 K with h | h
    ·exact absurd h hji
    ·exact h
   rw[ih hn.2 (λk G=>J k (by simp[G])) _ I];have H:nD f j v i=f i:=by unfold nD;rw[if_neg (λh=>hji h.symm)]
   rw[H]
theorem vI(a:Act):dE ops S (λi=>a.tmps.getD ((cf ops i).getD 0) undef) a=a:=by
 induction S with
 | nil=>rfl
 | cons i S ih=>
  rw[dc];have:a.put (cf ops i) (a.tmps.getD ((cf ops i).getD 0) undef)=a:=by
   cases cf ops i with
   | none=>rfl
   | some t=>
    simp only[AN,Option.getD_some];have:a.tmps.setIfInBounds t (a.tmps.getD t undef)=a.tmps:=by
     apply Array.ext
     ·simp
     ·intro k h1 h2;rw[Array.getElem_setIfInBounds];split
      ·rename_i h;subst h;simp[h2]
      ·rfl
    rw[this]
  rw[this];exact ih
theorem tI{T:List Nat}(C:T.Nodup)(h:∀i∈T,i∈S):T.length<=S.length:=by
 induction T generalizing S with
 | nil=>simp
 | cons x T ih=>
  rw[Bv]at C;have G:=h x Ag;have h1:=ih (S:=S.erase x) C.2 (λi hi=>(List.mem_erase_of_ne (λe=>C.1 (by rw[<-e];exact hi))).2 (h i (by simp[hi])));rw[List.length_erase_of_mem G]at h1;have:=List.length_pos_of_mem G;simp only[List.length_cons];omega
def aV(S:List Nat)(l:Array Bool):Array Bool:=S.foldl (λl i=>l.setIfInBounds i true) l
theorem mj(S:List Nat)(l:Array Bool):(aV S l).size=l.size:=by
 induction S generalizing l with
 | nil=>rfl
 | cons i S ih=>show(aV S (l.setIfInBounds i true)).size=_;rw[ih];simp
theorem bd(S:List Nat)(l:Array Bool)(k:Nat)(d:Bool):(aV S l).getD k d=if k∈S/\k<l.size then true else l.getD k d:=by
 induction S generalizing l with
 | nil=>simp[aV]
 | cons i S ih=>
  show(aV S (l.setIfInBounds i true)).getD k d=_;rw[ih];by_cases hik:i=k
  ·subst hik;by_cases hlt:i<l.size
   ·simp[hlt]
   ·simp[hlt]
  ·have:k≠i:=λh=>hik h.symm
   rw[getD_set_ne d hik];simp[this]
theorem ml(H:∀j,C.getD j false=true->∀k∈cg md ops j,C.getD k false=true):
  ∀n j,(∀k∈cg md ops j,C.getD k false=true)->∀k∈needs md ops n j,C.getD k false=true
 | 0,j,h,k,G=>h k G
 | n+1,j,h,k,G=>by
  rcases AJ.1 G with G | G
  ·exact h k G
  ·obtain⟨i,hi,G⟩:=List.mem_flatMap.1 G;exact ml H n i (H i (h i hi)) k G
theorem ja(h:j∈BV md ops C):j<ops.size/\C.getD j true=false/\∀k∈cg md ops j,C.getD k false=true:=by
 obtain⟨h0,o,I,G⟩:=mem_ready.1 h;refine⟨(A8.1 I).1,h0,λk H=> ?_⟩;unfold cg at H;rw[I]at H;simp only[Bi,List.mem_filter]at H;obtain⟨e,⟨J,hb⟩,rfl⟩:=H;exact G e (by simpa using J) hb
theorem mn(G:j<ops.size)(h0:C.getD j true=false)(h:∀k∈cg md ops j,C.getD k false=true):j∈BV md ops C:=by
 refine mem_ready.2 ⟨h0,ops[j],DQ G,λe H hb=>h e.on ?_⟩;unfold cg;rw[DQ G];simp only[Bi,List.mem_filter];exact⟨e,⟨by simpa using H,hb⟩,rfl⟩
def o7(md:Region.Mode)(ops:Array Oper)(n:Nat)(S:List Nat)(l:Array Bool):Bool:=
 l.size==ops.size && S.all (λi=>decide (i<ops.size) && !l.getD i true && (cf ops i).isSome) &&
 (BO ops.size).all (λj=> !l.getD j false || (cg md ops j).all (λk=>l.getD k false)) &&
 (BO ops.size).all (λj=>S.contains j || l.getD j false || S.all (λi=>(needs md ops n j).contains i)) &&
 S.all (λj=>(cg md ops j).all (λk=>decide (k<j) && (S.contains k || l.getD k false)))
variable{l:Array Bool}
theorem vJ(S:List Nat)(n:Nat)(Al:Nat->Bool)(F:Nat->Value->World->Prop) 
  (ax:o7 md ops n S l=true)(av:(S.map (cf ops)).Nodup)
  (b4:∀i∈S,∀v w w',F i v w->AG w.heap.size w w'->F i v w')
  (b1:∀i∈S,Al i=true->∀v w,F i v w->blk v<w.heap.size)
  (a1:∀j∈S,∀(f:Nat->Value)(w':World),AG w.heap.size w w'->(∀i∈S,i∈cg md ops j->F i (f i) w')->∀K:Act->World->Prop,
   (∀v ab,F j v ab->AG w'.heap.size w' ab->(Al j=true->w'.heap.size<=blk v)->K (dE ops S (nD f j v) a) ab)->wpOp P ops Q j K (dE ops S f a) w')
  (ay:∀f w',AG w.heap.size w w'->(∀i∈S,F i (f i) w')->(∀i∈S,∀j∈S,Al i=true->Al j=true->i≠j->blk (f i)≠blk (f j))->wpAny P md ops Q fuel (aV S l) (dE ops S f a) w'):
  wpAny P md ops Q (fuel+S.length) l a w:=by
 unfold o7 at ax;simp only[Bo,Cd,DP,Bool.not_eq_true',decide_eq_true_eq,List.mem_range,beq_iff_eq,List.contains_iff_mem]at ax;obtain⟨⟨⟨⟨bi,hS⟩,bz⟩,be⟩,V⟩:=ax;have bb:S.Nodup:=by
  rw[FC]at av⊢;rw[C0]at av;exact av.imp (λh e=>h (by rw[e]))
 have bp:∀(r:Nat)(T:List Nat)(f:Nat->Value)(w':World),T.Nodup->(∀i∈T,i∈S)->T.length+r=S.length->
   (∀j,(aV T l).getD j false=true->∀k∈cg md ops j,(aV T l).getD k false=true)->
   AG w.heap.size w w'->(∀i∈T,F i (f i) w')->(∀i∈T,∀j∈T,Al i=true->Al j=true->i≠j->blk (f i)≠blk (f j))->
   wpAny P md ops Q (fuel+r) (aV T l) (dE ops S f a) w':=by
  intro r
  induction r with
  | zero=>
   intro T f w' aq hT a9 U hb hF aa;have I:∀i∈S,i∈T:=by
    intro i hi;apply DD;intro b2;have h1:(i::T).length<=S.length:=tI (Bv.2 ⟨b2,aq⟩) (λk H=>by rcases A3.1 H with rfl | H;exact hi;exact hT k H);simp at h1;omega
   have e:aV T l=aV S l:=by
    apply Array.ext
    ·rw[mj,mj]
    ·intro k h1 h2;have g1:=bd T l k false;have g2:=bd S l k false;have a4:k∈T↔k∈S:=⟨hT k,I k⟩;simp only[a4]at g1;rw[<-g2]at g1;simpa [h1,h2]using g1
   rw[e];exact ay f w' hb (λi hi=>hF i (I i hi)) (λi hi j hj=>aa i (I i hi) j (I j hj))
  | succ r ih=>
   intro T f w' aq hT a9 U hb hF aa;have a3:∃i∈S,i∉T:=by
    apply DD;intro am;have G:∀i∈S,i∈T:=λi hi=>DD λh=>am ⟨i,hi,h⟩
    have:=tI bb G;omega
   have an:∀j∈BV md ops (aV T l),j∈S/\j∉T/\∀k∈cg md ops j,(aV T l).getD k false=true:=by
    intro j hj;obtain⟨ak,Y,Z⟩:=ja hj;have ad:j∉T:=by
     intro h;rw[bd]at Y;simp[h,bi,ak]at Y
    refine⟨?_,ad,Z⟩;rcases be j ak with(h | h) | h
    ·exact h
    ·rw[bd]at Y;have:j<l.size:=Aa
     simp[ad,this]at Y h;rw[Y]at h;cases h
    ·obtain⟨i,hi,C⟩:=a3;have h1:=ml U n j Z i (h i hi);rw[bd]at h1;have h2:=(hS i hi).1.2;have:i<l.size:=by have:=(hS i hi).1.1;omega
     simp[C,this]at h1 h2;rw[h1]at h2;cases h2
   have un:∀i∈S,i∉T->(aV T l).getD i true=false:=λi hi C=>by
    rw[bd];have:=(hS i hi).1.2;simp[C];simpa using this
   have a0:∃i∈BV md ops (aV T l),True:=by
    have key:∀(m i:Nat),i<=m->i∈S->i∉T->∃i∈BV md ops (aV T l),True:=by
     intro m
     induction m with
     | zero=>
      intro i b0 hi C;refine⟨i,mn (hS i hi).1.1 (un i hi C) (λk H=> ?_),trivial⟩;have:=(V i hi k H).1;omega
     | succ m ihm=>
      intro i b0 hi C;by_cases G:∀k∈cg md ops i,(aV T l).getD k false=true
      ·exact⟨i,mn (hS i hi).1.1 (un i hi C) G,trivial⟩
      ·simp only[Classical.not_forall]at G;obtain⟨k,H,am⟩:=G;obtain⟨b6,b3⟩:=V i hi k H;have a7:k∉T:=λh=>am (by rw[bd];simp[h,bi];have:=(hS k (hT k h)).1.1;omega)
       rcases b3 with h | h
       ·exact ihm k Aa h a7
       ·exact absurd (by rw[bd];simp[a7];simpa using h) am
    obtain⟨i,hi,C⟩:=a3;exact key i i (AK _) hi C
   refine⟨λh=> ?_,λj hj=> ?_⟩
   ·obtain⟨i,hi,_⟩:=a0;rw[h]at hi;cases hi
   ·obtain⟨a6,ad,Z⟩:=an j hj;refine a1 j a6 f w' hb (λi hi hp=> ?_) _ (λv ab bq a2 ap=> ?_)
    ·refine hF i (DD λC=> ?_);have h1:=Z i hp;rw[bd]at h1;have h2:=(hS i hi).1.2;have:i<l.size:=by have:=(hS i hi).1.1;omega
     simp[C,this]at h1 h2;rw[h1]at h2;cases h2
    ·have e:(aV T l).setIfInBounds j true=aV (T++ [j]) l:=by unfold aV;rw[List.foldl_append];rfl
     rw[e];refine ih (T++ [j]) (nD f j v) ab ?_ ?_ ?_ ?_ (hb.trans (a2.mono hb.size)) ?_ ?_
     ·exact List.nodup_append.2 ⟨aq,Ag,by intro x hx y hy;simp at hy;subst hy;exact λh=>ad (h▸hx)⟩
     ·intro i hi;rcases AJ.1 hi with h | h
      ·exact hT i h
      ·simp at h;rw[h];exact a6
     ·simp;omega
     ·intro i hi k H;rw[<-e]at hi⊢;by_cases hij:j=i
      ·subst hij;exact getD_set_true (Z k H)
      ·rw[getD_set_ne false hij]at hi;exact getD_set_true (U i hi k H)
     ·intro i hi;by_cases hij:i=j
      ·subst hij;simpa [nD]using bq
      ·have C:i∈T:=by
        rcases AJ.1 hi with h | h
        ·exact h
        ·simp at h;exact absurd h hij
       simp only[nD,hij,if_false];exact b4 i (hT i C) _ _ _ (hF i C) a2
     ·intro i hi k H ar au a5;have low:∀x∈T,Al x=true->blk (f x)<w'.heap.size:=λx hx bt=>b1 x (hT x hx) bt _ _ (hF x hx)
      have ao:∀x∈T++ [j],x≠j->x∈T:=λx hx b5=>by
       rcases AJ.1 hx with h | h
       ·exact h
       ·simp at h;exact absurd h b5
      by_cases hij:i=j
      ·have J:k≠j:=λh=>a5 (by rw[hij,h])
       have h1:=low k (ao k H J) au;subst hij;simp only[nD,if_true,J,if_false];have:=ap ar;omega
      ·have h1:=low i (ao i hi hij) ar;by_cases J:k=j
       ·subst J;simp only[nD,if_true,hij,if_false];have:=ap au;omega
       ·simp only[nD,hij,J,if_false];exact aa i (ao i hi hij) k (ao k H J) ar au a5
 have h0:=bp S.length [] (λi=>a.tmps.getD ((cf ops i).getD 0) undef) w Ag Ag Ag (λj hj k H=>by
   have ak:j<ops.size:=by
    rcases Bl j ops.size with h | h
    ·exact h
    ·have ac:l.getD j false=true:=hj;simp[Array.getElem?_eq_none (show l.size<=j by omega)]at ac
   rcases bz j ak with h | h
   ·have ac:l.getD j false=true:=hj;rw[h]at ac;cases ac
   ·exact h k H) (AL _ _) Ag Ag
 rw[vI]at h0;exact h0
def cK(D:List (Nat×Tmp))(f:Nat->Value)(a:Act):Act:=D.foldl (λa p=>a.put (some p.2) (f p.1)) a
theorem tJ{D:List (Nat×Tmp)}(h:D.all (λp=>cf ops p.1==some p.2)=true)(f:Nat->Value)(a:Act):cK D f a=dE ops (D.map (·.1)) f a:=by
 induction D generalizing a with
 | nil=>rfl
 | cons p D ih=>
  simp only[List.all_cons,Bo,beq_iff_eq]at h;show cK D f (a.put (some p.2) (f p.1))=dE ops (D.map (·.1)) f (a.put (cf ops p.1) (f p.1));rw[h.1,ih h.2]
theorem AA{p:Prop}(h:p:=by simpa using e):p:=h
theorem iC(D:List (Nat×Tmp))(n:Nat)(U:Nat->Bool)(F:Nat->Value->World->Prop) 
  (aa:o7 md ops n (D.map (·.1)) l=true)(C:D.all (λp=>cf ops p.1==some p.2)=true)(V:(D.map (·.2)).Nodup)
  (ab:∀i∈D.map (·.1),∀v w w',F i v w->AG w.heap.size w w'->F i v w')
  (Z:∀i∈D.map (·.1),U i=true->∀v w,F i v w->blk v<w.heap.size)
  (J:∀p∈D,∀(f:Nat->Value)(w':World),AG w.heap.size w w'->(∀i∈D.map (·.1),i∈cg md ops p.1->F i (f i) w')->∀K:Act->World->Prop,
   (∀v G,F p.1 v G->AG w'.heap.size w' G->(U p.1=true->w'.heap.size<=blk v)->K ((cK D f a).put (some p.2) v) G)->wpOp P ops Q p.1 K (cK D f a) w')
  (I:∀f w',AG w.heap.size w w'->(∀i∈D.map (·.1),F i (f i) w')->(∀i∈D.map (·.1),∀j∈D.map (·.1),U i=true->U j=true->i≠j->blk (f i)≠blk (f j))->
   wpAny P md ops Q fuel (aV (D.map (·.1)) l) (cK D f a) w'):
  wpAny P md ops Q (fuel+D.length) l a w:=by
 have hS:∀i∈D.map (·.1),cf ops i≠none:=by
  intro i hi;obtain⟨p,hp,rfl⟩:=Bi.1 hi;have:=Cd.1 C p hp;rw[beq_iff_eq]at this;rw[this];simp
 have H:((D.map (·.1)).map (cf ops)).Nodup:=by
  rw[CG];have:D.map (cf ops ∘ λp=>p.1)=(D.map (·.2)).map some:=by
   rw[CG];apply Ea;intro p hp;have:=Cd.1 C p hp;rw[beq_iff_eq]at this;simp[this]
  rw[this,FC,C0];rw[FC]at V;exact V.imp (λh e=>h AA)
 have h:=vJ (fuel:=fuel) (D.map (·.1)) n U F aa H ab Z (λj hj f w' hb Y K hK=>by
   rw[<-tJ C];obtain⟨p,hp,rfl⟩:=Bi.1 hj;have hd:=Cd.1 C p hp;rw[beq_iff_eq]at hd;refine J p hp f w' hb Y K (λv G h1 h2 h3=> ?_);have:=hK v G h1 h2 h3;rw[<-yi H hS _ _ _ hj,<-tJ C,hd]at this;exact this) (λf w' hb Y hs=>by rw[<-tJ C];exact I f w' hb Y hs)
 rwa [List.length_map]at h
end
def aN(w:World)(g:Nat)(a:Option A2)(L c:Nat):Prop:=w.heap[g]? =some (.cells #[.slice a L c] 31 (0,0))
variable{w:World}{g L c:Nat}{a:Option A2}
theorem aN.cell(h:aN w g a L c):w.cell? ⟨g,0,none⟩=some (.slice a L c):=by
 rw[CB w g 0 _ _ (0,0) h];rfl
theorem aN.frozen(h:aN w g a L c):w.frozen? ⟨g,0,none⟩=false:=Dh w g 0 _ _ h
theorem aN.lt(h:aN w g a L c):g<w.heap.size:=(A8.1 h).1
variable{w':World}
theorem aN.mono{B:Nat}(h:aN w g a L c)(hb:AG B w w')(hB:g<B):aN w' g a L c:=(hb.block g hB).trans h
theorem aN.set{L' c':Nat}{a':Option A2}(h:aN w g a L c):aN (w.setCell ⟨g,0,none⟩ (.slice a' L' c')) g a' L' c':=by
 have:=CH w g 0 _ _ (.slice a' L' c') h;exact this
theorem aN.setOther(h:aN w g a L c)(p:A2)(u:Value)(hp:p.block≠g):aN (w.setCell p u) g a L c:=
 (CD w p u g (λe=>hp e.symm)).trans h
theorem aN.made(w:World)(a:Option A2)(L c:Nat):aN (w.alloc (.cells #[.slice a L c] 31)) w.heap.size a L c:=heap_alloc_new w _
theorem aN.ne{b o:Nat}{x:Int}{k:IntKind}(h:aN w g a L c)(C:w.cell? ⟨b,o,none⟩=some (.int k x)):b≠g:=by
 rintro rfl;rw[CB w b o _ _ (0,0) h]at C
 cases o with
 | zero=>cases C
 | succ o=>simp at C
variable{base N:Nat}{v:Value}
theorem aP.setVar{u:Value}(h:aP base w v N)(J:aN w g a L c):aP base (w.setCell ⟨g,0,none⟩ u) v N:=by
 obtain⟨x,cap,rfl,hc,K⟩:=h;refine⟨x,cap,rfl,hc,λH=> ?_⟩;obtain⟨b,off,rfl,hb,I,hf⟩:=K H;have C:b≠g:=J.ne (by simpa using I 0 H);refine⟨b,off,rfl,hb,λj G=> ?_,λj G=> ?_⟩
 ·rw[BM (CD w _ u b At)];exact I j G
 ·rw[World.frozen?_of_block (CD w _ u b At)];exact hf j G
theorem IsN.setVar{u:Value}(h:IsN w v N)(J:aN w g a L c):IsN (w.setCell ⟨g,0,none⟩ u) v N:=by
 obtain⟨x,cap,rfl,hc,I⟩:=h;refine⟨x,cap,rfl,hc,I.lt,λG=> ?_⟩;obtain⟨b,off,rfl,H⟩:=I.cells G;have C:b≠g:=J.ne (by simpa using H 0 G);refine⟨b,off,rfl,λj K=> ?_⟩;rw[BM (CD w _ u b At)];exact H j K
variable{M:Nat}
theorem D_ext(hl:nl M=nl N)(h:∀j,j<nl N->D M j=D N j):M=N:=by
 have e:M % 4294967296^nl N=N % 4294967296^nl N:=aal _ (λj C=>h j C);rw[Cl (by rw[<-hl];exact dZ M),Cl (dZ N)]at e;exact e
theorem IsN.unique(h:IsN w v M)(H:IsN w v N):M=N:=by
 obtain⟨x,cap,rfl,_,K⟩:=h;obtain⟨y,G,e,_,hy⟩:=H;simp only[Value.agg.injEq,Array.mk.injEq,List.cons.injEq,Value.slice.injEq,and_true]at e;obtain⟨rfl,hl,rfl⟩:=e;refine D_ext hl (λj J=> ?_);obtain⟨b,o,rfl,I⟩:=K.cells Aa;obtain⟨U,V,e',C⟩:=hy.cells Aa;cases e';have h1:=I j Aa;rw[C j J]at h1;simp only[A9.injEq,AW.injEq,true_and]at h1;omega
def iD(base:Nat)(w:World)(g N:Nat):Prop:=∃a c,aN w g a (nl N) c/\aP base w (.agg #[.slice a (nl N) c]) N
noncomputable def valAt(w:World)(g:Nat):Nat:=Classical.epsilon (λN=>∃base,iD base w g N)
theorem iD.valAt(h:iD base w g N):valAt w g=N:=by
 have h1:∃N,∃base,iD base w g N:=⟨N,base,h⟩;obtain⟨C,a',J,G,H⟩:=Classical.epsilon_spec h1;obtain⟨a,c,hb,hn⟩:=h;have e:=G.symm.trans hb;simp only[A9.injEq,Obj.cells.injEq,Array.mk.injEq,List.cons.injEq,Value.slice.injEq,and_true]at e;have I:=H.isN;rw[e.1,e.2.1,e.2.2]at I;exact I.unique hn.isN
theorem iD.mono{B:Nat}(h:iD base w g N)(hb:AG w.heap.size w w'):iD base w' g N:=by
 obtain⟨a,c,h1,h2⟩:=h;exact⟨a,c,h1.mono hb h1.lt,h2.mono hb⟩
variable{ops:Array Oper}{o:Oper}{a:Act}{K:Act->World->Prop}{Q:Exit->Act->World->Prop}
theorem nE{E:Prop}
  (hg:o.guard=none)(s x:AZ)(Y:o.op=Op.call {callee:=Callee.builtin Builtin.append,args:=#[s,x],argTypes:=#[29,29]})
  (base:Nat)(ac:base<=w.heap.size)(I:Option A2)(hs:a.eval s= .slice I 0 0)(ao:Option A2)(L cap N:Nat)(hx:a.eval x= .slice ao L cap)(hr:Rw w ao L N)(hL:L<=30000000000000)
  (hK:∀a' c' w',iW w' base a' L N->L<=c'->AG w.heap.size w w'->K (a.put o.dst (.slice a' L c')) w'):
  if A7 o (yielded ops a.tmps)=true then Oper.wp AE o a w K Q else E:=by
 have hw:A7 o (yielded ops a.tmps)=true:=by simp[A7,hg]
 obtain⟨i,hi,am,an,ap⟩:=info_parts o6;rcases Dm L with h0 | Z
 ·subst h0;rw[if_pos hw];have aa:(Ca #[29,29] o.type #[.slice I 0 0,.slice ao 0 cap]).run AE w= .ok (.slice I 0 0) w:=by
   cases I<;>cases ao<;>simp[Ca,run_underlying Eb,sizeOf,typeInfo,hi,Builtin.lenOf,Builtin.firstCells,storeCells,loadCells,loadCellsFrom,AX]
  unfold Oper.wp;simp[execOp,Y,resolve,invoke,builtin,hs,hx,aa,AX];exact hK I 0 w (λh=>Aa) (AK _) (AL _ _)
 ·obtain⟨b,off,rfl,hd⟩:=hr.cells Z;refine step_append_grows hg s x 29 Y 237 i (.int .u32 0) 1 4 Eb hi am an ap rfl th I 0 0 [] hs (λ_=>Aj) rfl (λb hb j u H=>by cases H)
   ⟨b,off,none⟩ L cap ((BO L).map λj=>AW .u32 ((D N j:Nat):Int)) hx Ag (λj u H=> ?_) (by intro u H;obtain⟨_,_,rfl⟩:=Bi.1 H;rfl) Aa (by simp only[maxLen];omega) Aa ?_
  ·have V:j<L:=by
    have:=(A5.1 H).1;simpa using this
   have J:(⟨b,off,none⟩:A2).add j=⟨b,off+j,none⟩:=by unfold Addr.add;split<;>simp_all
   rw[J,hd j V];simpa [V]using H
  ·intro v' w' ho ad;rcases ho.2 with⟨rfl,h⟩ | ⟨g,c,C,rfl,aq,U,ak,ar,au,G⟩
   ·omega
   ·have ab:AG w.heap.size w w':=eL ad _ (AK _) (λk hk=>by cases hk);have:=hK (some ⟨g,0,none⟩) c w' (λh=>⟨g,rfl,Aa,λj V=> ?_,λj V=>Dh w' g j C _ U⟩) (by simpa using ak) ab
    ·simpa using this
    ·rw[Bh,CB w' g j C _ (0,0) U];have h1:(C.toList.take ((0+L)*1))[j]? =some (.int .u32 ((D N j:Nat):Int)):=by rw[G];simp[V]
     rw[BP]at h1;split at h1
     ·simpa using h1
     ·cases h1
theorem gK{i:Nat}{d:Option Tmp} 
  (ho:ops[i]? =some o)(Y:o.dst=d)(Z:o.guard=none)(s x:AZ)(I:o.op=Op.call {callee:=Callee.builtin Builtin.append,args:=#[s,x],argTypes:=#[29,29]})
  (base:Nat)(C:base<=w.heap.size)(J:Option A2)(hs:a.eval s= .slice J 0 0)(G:Option A2)(L cap N:Nat)(hx:a.eval x= .slice G L cap)(hr:Rw w G L N)(V:L<=30000000000000)
  (U:∀a' c' w',iW w' base a' L N->L<=c'->AG w.heap.size w w'->K (a.put d (.slice a' L c')) w'):wpOp AE ops Q i K a w:=
 C8 ho (λK' H=>nE Z s x I base C J hs G L cap N hx hr V (λa' c' w' h1 h2 h3=>H _ _ (by rw[Y];exact U a' c' w' h1 h2 h3)))
theorem pD{fn:Func}{p q r:Tmp}(h:fn.results=#[.cell p 31,.cell q 31,.tmp r])(tmps:Array Value)(w:World)(C G:Nat)(v1 v2 u:Value)
  (hp:tmps.getD p undef= .pointer (some ⟨C,0,none⟩))(V:tmps.getD q undef= .pointer (some ⟨G,0,none⟩))(hr:tmps.getD r undef=u)(H:w.cell? ⟨C,0,none⟩=some v1)(I:w.cell? ⟨G,0,none⟩=some v2):
  (results fn tmps).run AE w= .ok (.tuple #[.agg #[v1],.agg #[v2],u]) w:=by
 have J:tmps[p]?.getD undef= .pointer (some ⟨C,0,none⟩):=by simpa using hp
 have K:tmps[q]?.getD undef= .pointer (some ⟨G,0,none⟩):=by simpa using V
 have U:tmps[r]?.getD undef=u:=by simpa using hr
 simp[results,h,J,K,U,asAddr,loadVar,go_sem,H,I]
def iE(W:World)(q r:Nat)(c:Int)(e:Ending)(w':World):Prop:=
 ∃vq vr,e= .returned (.tuple #[vq,vr,.int .i64 c])/\aP W.heap.size w' vq q/\aP W.heap.size w' vr r/\AG W.heap.size W w'
theorem Res2.ret{w2:World}{r1 r2 q r:Nat}{u1 u2:Value}{c:Int}(h:Res2 w w2 r1 r2)(V:aP (r2+1) w2 (.agg #[u1]) q)(hr:aP (r2+1) w2 (.agg #[u2]) r)
  {fn:Func}{I J K:Tmp}{tmps:Array Value}(H:fn.results=#[.cell I 31,.cell J 31,.tmp K])
  (Y:tmps.getD I undef= .pointer (some ⟨r1,0,none⟩))(Z:tmps.getD J undef= .pointer (some ⟨r2,0,none⟩))(t3:tmps.getD K undef= .int .i64 c):
  bodyPost AE fn (λe w'=>iE w q r c e w') .ret {tmps:=tmps,defers:=[]} ((w2.setCell ⟨r1,0,none⟩ u1).setCell ⟨r2,0,none⟩ u2):=by
 have U:=h.lt;have C:=h.fin (u1:=u1) (u2:=u2) V hr;have G:(⟨r1,0,none⟩:A2)≠⟨r2,0,none⟩:=by intro e;cases e;omega
 have g1:((w2.setCell ⟨r1,0,none⟩ u1).setCell ⟨r2,0,none⟩ u2).cell? ⟨r1,0,none⟩=some u1:=by
  rw[FD _ _ _ _ G.symm];exact Ec _ _ _ h.cell1
 have g2:((w2.setCell ⟨r1,0,none⟩ u1).setCell ⟨r2,0,none⟩ u2).cell? ⟨r2,0,none⟩=some u2:=by
  refine Ec _ _ _ (u:=.slice none 0 0) ?_;rw[FD _ _ _ _ G];exact h.cell2
 exact A6 (pD H _ _ r1 r2 _ _ _ Y Z t3 g1 g2) rfl ⟨_,_,rfl,C.1,C.2.1,C.2.2⟩
theorem yj(w:World)(a b:Option A2)(m C n G:Nat):AG w.heap.size w ((((w.alloc (.cells #[.slice a m C] 31)).alloc (.cells #[.slice b n G] 31)).alloc (.cells #[.slice none 0 0] 31)).alloc (.cells #[.slice none 0 0] 31)):=
 ((((AL _ _).alloc (AK _) _).alloc Ag _).alloc (by simp;omega) _).alloc (by simp;omega) _
set_option maxRecDepth 100000 in
theorem rL(va vb:Value)(m n:Nat)(w:World)(ha:IsN w va m)(hb:IsN w vb n)(hm:nl m<=1000000000000)(hn:nl n<=1000000000000)(am:m<n):
  AH AE 200 #[va,vb] w λe w'=>iE w 0 m 0 e w':=by
 obtain⟨a,ca,rfl,ac,ra⟩:=ha;obtain⟨b,cb,rfl,ad,rb⟩:=hb;have hw:=yj w a b (nl m) ca (nl n) cb;have Y:=ra.mono hw;have aa:=rb.mono hw;have ak:nl m<=9223372036854775807:=Aa
 have an:nl n<=9223372036854775807:=Aa
 have hp:=dM (show n≠0 by omega);have ar:(((nl n:Nat):Int)==0)=false:=by rw[beq_eq_false_iff_ne];omega
 have aq:dz m n= -1:=gf am;go_enter Tryz.func200,Tryz.ntmps200
 go_wp2_with fail
 go_quiet (first
  | (go_at_call 189;with_reducible exact d8 (dO a (nl m) ca m _ ak ac (Y.drewN _)))
  | (go_at_call 189;with_reducible exact d8 (dO b (nl n) cb n _ an ad (aa.drewN _))))
 go_upto_region 2 with(fail)
 go_cut [25] (λap wx=>ap= .bool false/\Res2 w wx (w.heap.size+1+1) (w.heap.size+1+1+1))
 case first=>
  go_wp2_with fail
  go_meet;case rel=>exact⟨rfl,aF hw nq,Aa,Aa,Ag,Ak,Ak,Ak,Ak⟩
 case rest=>
  obtain⟨rfl,U⟩:=hcut;clear hw Y aa;go_wp2_with fail
  refine(fB a b _ _ m n _ (ra.mono U.below) (rb.mono U.below) Aa Aa).mono ?_;rintro e w1 ⟨rfl,q,rfl⟩;have hr1:=U.drewN q;have C:=World.ownsRow_made (base:=wc.heap.size) (e:=237) (size:=1) (wc.drewN q) #[] 0 (AK _) (Bc _) rfl;simp only[World.heap_drewN]at C;have V:=hr1.after ((AL (wc.drewN q).heap.size (wc.drewN q)).alloc (AK _) (.cells #[] 237));have Z:=ra.mono V.below;go_wp2_with (at_builtin;refine fI rfl _ _ rfl wc.heap.size _ rfl C Ag a (nl m) (nl m) m rfl Z Aa ?_)
  intro a' c' w' I ab K;have ao:=V.step (eL K wc.heap.size Ag (λk hk=>(C.lt k hk).1)) U.size;clear K C Z;go_wp2_with fail
  refine(gC a' (nl m) c' m _ Aa ab (I.rw' (dZ m))).mono ?_;rintro e w2 ⟨rfl,H⟩;have G:=ao.after H;have J:=I.mono H;obtain⟨q1,q2,q3,q4⟩:=Ba G.cell1 (Ba G.cell2 (Ba G.frozen1 G.frozen2));go_wp2;exact G.ret (q:=0) (r:=m) (u1:=.slice none 0 0) aP.of_zero ((J.newN (AK _)).weaken U.size) rfl rfl rfl rfl
set_option maxRecDepth 100000 in
theorem tK(va vb:Value)(m n:Nat)(w:World)(ha:IsN w va m)(hb:IsN w vb n)(hm:nl m<=1000000000000)(G:nl n=1)(a5:n<=m):
  AH AE 200 #[va,vb] w λe w'=>iE w (m / n) (m % n) 0 e w':=by
 have ap:n≠0:=λh=>by rw[h,bj]at G;omega
 have hn:nl n<=1000000000000:=Aa
 have U:n<4294967296:=by have h:=dZ n;rw[G]at h;omega
 have H:D n 0=n:=by unfold D;rw[Dy,Nat.div_one];omega
 have ab:=AF H;have a2:=AF G;obtain⟨a,ca,rfl,ad,ra⟩:=ha;obtain⟨b,cb,rfl,ak,rb⟩:=hb;have hw:=yj w a b (nl m) ca (nl n) cb;have Z:=ra.mono hw;have aa:=rb.mono hw;have an:nl m<=9223372036854775807:=Aa
 have ao:nl n<=9223372036854775807:=Aa
 have hp:=dM ap;have a6:(((nl n:Nat):Int)==0)=false:=by rw[beq_eq_false_iff_ne];omega
 have a4:0<=dz m n:=by unfold dz;split<;>first | (exfalso;omega) | (split<;>omega)
 have a1:(((nl n:Nat):Int)==1)=true:=by rw[beq_iff_eq];omega
 obtain⟨b1,o1,rfl,K⟩:=rb.cells Aa;clear H G;go_enter Tryz.func200,Tryz.ntmps200
 go_wp2_with fail
 go_quiet (first
  | (go_at_call 189;with_reducible exact d8 (dO a (nl m) ca m _ an ad (Z.drewN _)))
  | (go_at_call 189;with_reducible exact d8 (dO (some ⟨b1,o1,none⟩) (nl n) cb n _ ao ak (aa.drewN _))))
 go_upto_region 2 with(fail)
 go_cut [25] (λa0 wx=>a0= .bool false/\Res2 w wx (w.heap.size+1+1) (w.heap.size+1+1+1))
 case first=>
  go_wp2_with fail
  go_meet;case rel=>exact⟨rfl,aF hw nq,Aa,Aa,Ag,Ak,Ak,Ak,Ak⟩
 case rest=>
  obtain⟨rfl,hr⟩:=hcut;clear hw Z aa;go_wp2_with fail
  refine(fB a (some ⟨b1,o1,none⟩) _ _ m n _ (ra.mono hr.below) (rb.mono hr.below) Aa Aa).mono ?_;rintro e w1 ⟨rfl,q,rfl⟩;have hr1:=hr.drewN q;have c1:=(K.mono hr1.below (K.lt Aa)) 0 Aa;rw[ab.out,CM]at c1;go_wp2_with fail
  refine(c_short a (nl m) (nl m) m n _ (ra.mono hr1.below) hm Aa U).mono ?_;rintro e w2 ⟨g,rfl,hg,ho,ac⟩;have au:=hr1.after ac;have a3:m % n<4294967296:=Dl (Bs _ Aa) U;go_wp2_with fail
  refine(gC _ (nl m) (nl m) (m / n) _ Aa (AK _) ho.rw').mono ?_;rintro e w3 ⟨rfl,I⟩;have V:=au.after I;have aq:=aP.of_own (base:=w.heap.size+1+1+1+1) ho I (AI hr.size hg);go_wp2_with fail
  refine(fh (m % n) _ Aa).mono ?_;rintro e w4 ⟨v,rfl,hv,J⟩;have C:=V.after J;have ar:=aq.mono J;have ax:=hv.weaken V.size;obtain⟨av,cv,rfl,am,Y⟩:=ax;have ay:aP (w.heap.size+1+1+1+1) w4 (.agg #[.slice av (nl (m % n)) cv]) (m % n):=⟨av,cv,rfl,am,Y⟩;clear Y hv;obtain⟨q1,q2,q3,q4⟩:=Ba C.cell1 (Ba C.cell2 (Ba C.frozen1 C.frozen2));go_wp2;exact C.ret ar ay rfl rfl rfl rfl
theorem yk{n:Nat}(hn:n≠0):∃s:Nat,(32 - ((Lib.bitLen (D n (nl n - 1)):Nat):Int))=(s:Int)/\s<32/\n*2^s<4294967296^nl n/\2147483648<=D (n*2^s) (nl n - 1):=by
 have h1:=dM hn;have h2:=aak hn;have h3:=dZ n;obtain⟨k,Z⟩:∃k,nl n=k+1:=⟨nl n - 1,Aa⟩;rw[Z]at h2 h3⊢;simp only[Nat.add_sub_cancel]at h2⊢;have V:D n k=n / 4294967296^k:=by
  unfold D;rw[Cl];rw[Cm (cH k),<-ED];exact h3
 have aa:=ci n k;have hl:(D n k).log2<32:=(Nat.log2_lt h2).2 Aa;have hb:=rV (t:=D n k) (k:=(D n k).log2) Aa (Nat.log2_self_le h2) E6;have g1:=Nat.log2_self_le h2;have g2:D n k<2^((D n k).log2+1):=E6;have Y:=Ce n (4294967296^k);have ab:=Bs n (cH k);rw[V]at *;generalize hL:(n / 4294967296^k).log2=l at *;generalize n / 4294967296^k=t at *;have J:2^(l+1)*2^(31 - l)=4294967296:=by rw[<-BY,show l+1+(31 - l)=32 by omega]
 have K:2^l*2^(31 - l)=2147483648:=by rw[<-BY,show l+(31 - l)=31 by omega]
 have I:n*2^(31 - l)<4294967296^(k+1):=by
  have C:n<4294967296^k*(t+1):=by rw[Cr];omega
  have G:=FB C (show 0<2^(31 - l)from D5 th);have H:4294967296^k*(t+1)*2^(31 - l)<=4294967296^k*(2^(l+1)*2^(31 - l)):=by
   rw[Dk];exact CY _ (C9 _ g2)
  rw[J]at H;rw[BL];exact Bt G H
 refine⟨31 - l,by rw[hb];omega,Aa,I,?_⟩;have v1:2147483648<=n*2^(31 - l) / 4294967296^k:=by
  rw[DL (cH k),<-K];have C:4294967296^k*2^l<=n:=AI (CY _ g1) Aa;have G:=C9 (2^(31 - l)) C;have U:2^l*2^(31 - l)*4294967296^k=4294967296^k*2^l*2^(31 - l):=by
   rw[Cn _ (4294967296^k),Dk]
  rw[U];exact G
 unfold D;rw[Cl]
 ·exact v1
 ·rw[Cm (cH k),<-ED];exact I
def dP(U V k:Nat):Nat:=U / 4294967296^k % V*4294967296^k+U % 4294967296^k
variable{U V k:Nat}
theorem vK(h:U / 4294967296^k<V):dP U V k=U:=by
 unfold dP;rw[Cl h,Cn];exact Ce _ _
theorem yl(U V:Nat):dP U V 0=U % V:=by unfold dP;simp[Cx]
theorem pE(U V k:Nat):dP U V (k+1)=4294967296^k*(U / 4294967296^(k+1) % V*4294967296+D U k)+U % 4294967296^k:=by
 unfold dP;rw[cI,BL];grind
theorem nF(U V k:Nat):dP U V (k+1) / 4294967296^k=U / 4294967296^(k+1) % V*4294967296+D U k:=by
 rw[pE,Nat.mul_add_div (cH k),Cw (Bs _ (cH k)),CM]
theorem win_lt(U V k:Nat)(C:0<V):U / 4294967296^(k+1) % V*4294967296+D U k<V*4294967296:=by
 have h1:=Bs (U / 4294967296^(k+1)) C;have h2:=ci U k;generalize U / 4294967296^(k+1) % V=r at *;omega
theorem remAt_lt(G:0<V)(C:V<4294967296^N):dP U V (k+1)<4294967296^(k+N+1):=by
 have h1:=win_lt U V k G;have h2:=Bs U (cH k);rw[pE];generalize U / 4294967296^(k+1) % V*4294967296+D U k=W at *;have h3:4294967296^k*(W+1)<=4294967296^k*(4294967296^N*4294967296):=CY _ (by
  have:=C9 4294967296 (Nat.le_of_lt C);omega)
 have e:4294967296^(k+N+1)=4294967296^k*(4294967296^N*4294967296):=by rw[BL,BY,Dk]
 rw[e,];rw[Cr]at h3;omega
theorem ym(U V k:Nat)(C:0<V):dP U V (k+1) - 4294967296^k*(dP U V (k+1) / 4294967296^k / V*V)=dP U V k:=by
 rw[nF,pE];have h1:=(rU (U / 4294967296^(k+1)) (D U k) V C).2;rw[<-cJ U k]at h1;unfold dP;rw[h1,Cn 4294967296 (U / 4294967296^(k+1) % V)];generalize U / 4294967296^(k+1) % V*4294967296+D U k=W at *;have h2:=Ce W V;have h3:4294967296^k*W=4294967296^k*(W / V*V)+W % V*4294967296^k:=by
  rw[Cn (W % V),<-Cr,Cn (W / V),h2]
 rw[h3];omega
theorem quo_step(U V k:Nat)(C:0<V):upd (co U V (k+1)) k (dP U V (k+1) / 4294967296^k / V)=co U V k/\dP U V (k+1) / 4294967296^k / V<4294967296:=by
 have h:=mh U V k C;rw[nF];exact⟨h.1,h.2.2⟩
theorem tL{B W P T V2 w0 I:Nat}(K:0<P)(Y:W=T*P+w0)(hw:w0<P)(U:V=V2*P+I)(hv:I<P)(hB:B<=V2)(Z:W / V<B)(J:0<B):
  W / V<=gd B T V2/\gd B T V2<=W / V+1:=by
 have C:0<V2:=Aa
 have H:0<V:=by have:=Ed C K;omega
 constructor
 ·have h1:W / V*V<=W:=Nat.div_mul_le_self _ _;have h2:W / V*V2<=T:=by
   have h3:W / V*V2*P<=W / V*V:=by
    rw[Dk];exact CY _ Aa
   have h4:W / V*V2*P<(T+1)*P:=by rw[CZ];omega
   have:=Nat.lt_of_mul_lt_mul_right h4;omega
  have h5:W / V<=T / V2:=(DL C).2 h2;unfold gd;omega
 ·generalize G:gd B T V2=q;have h1:q<=B - 1:=by rw[<-G];unfold gd;omega
  have h2:q*V2<=T:=by
   have:q<=T / V2:=by rw[<-G];unfold gd;omega
   exact(DL C).1 this
  rcases Dm q with h0 | h0
  ·rw[h0];exact Bc _
  ·obtain⟨z,rfl⟩:∃z,q=z+1:=⟨q - 1,Aa⟩;have h3:z*V<=W:=by
    have h4:z*V<=z*(V2*P+P):=CY _ Aa;have h5:z*(V2*P+P)<=T*P:=by
     have h6:(z*V2+z)*P<=T*P:=C9 _ (by rw[CZ]at h2;omega);have e:z*(V2*P+P)=(z*V2+z)*P:=Aw
     rw[e];exact h6
    omega
   have:z<=W / V:=(DL H).2 h3;omega
theorem knuth{C:Nat}(hN:2<=N)(Y:V<4294967296^N)(G:2147483648<=D V (N - 1))(hC:C<4294967296^(k+N+1))(hW:C / 4294967296^k<V*4294967296):
  D C (k+N)<=D V (N - 1)/\
  C / 4294967296^k / V<=gd 4294967296 ((D C (k+N)*4294967296+D C (k+N - 1))*4294967296+D C (k+N - 2)) (D V (N - 1)*4294967296+D V (N - 2))/\
  gd 4294967296 ((D C (k+N)*4294967296+D C (k+N - 1))*4294967296+D C (k+N - 2)) (D V (N - 1)*4294967296+D V (N - 2))<=C / 4294967296^k / V+1:=by
 obtain⟨j,rfl⟩:∃j,N=j+2:=⟨N - 2,Aa⟩;have e1:k+(j+2) - 1=k+j+1:=Aa
 have e2:k+(j+2) - 2=k+j:=Aa
 have e3:j+2 - 1=j+1:=Aa
 have e4:j+2 - 2=j:=Aa
 have e5:k+(j+2)=k+j+2:=Aa
 rw[e3]at G;rw[e1,e2,e3,e4,e5];rw[show k+(j+2)+1=k+j+3 by omega]at hC;have c3:C / 4294967296^(k+j+3)=0:=Cw hC;have c2:=cJ C (k+j+2);have c1:=cJ C (k+j+1);have c0:=cJ C (k+j);rw[c3,CR,Bh]at c2;rw[show k+j+1+1=k+j+2 by omega,c2]at c1;rw[c1]at c0;have v2:V / 4294967296^(j+2)=0:=Cw Y;have v1:=cJ V (j+1);have v0:=cJ V j;rw[show j+1+1=j+2 by omega,v2,CR,Bh]at v1;rw[v1]at v0;have I:0<V:=by
  rcases Dm V with h | h
  ·rw[h,D_zero]at G;omega
  ·exact h
 have aa:C / 4294967296^k / 4294967296^j=(D C (k+j+2)*4294967296+D C (k+j+1))*4294967296+D C (k+j):=by
  rw[CQ,<-BY,c0];omega
 have Z:V / 4294967296^j=D V (j+1)*4294967296+D V j:=by rw[v0];omega
 have J:=Ce (C / 4294967296^k) (4294967296^j);have H:=Ce V (4294967296^j);rw[aa]at J;rw[Z]at H;rw[Cn]at J H;have K:=tL (B:=4294967296) (W:=C / 4294967296^k) (V:=V) (P:=4294967296^j) (T:=(D C (k+j+2)*4294967296+D C (k+j+1))*4294967296+D C (k+j)) (V2:=D V (j+1)*4294967296+D V j)
  (cH j) J.symm (Bs _ (cH j)) H.symm (Bs _ (cH j)) Aa ((Cm I).2 (by rw[Cn];exact hW)) th
 refine⟨?_,K.1,K.2⟩;have t1:C / 4294967296^k / 4294967296<=V:=by
  have:C / 4294967296^k / 4294967296<V:=(Cm th).2 hW;omega
 have U:=Nat.div_le_div_right (c:=4294967296^(j+1)) t1;rw[v1,CQ,CQ]at U;rw[show 4294967296^k*(4294967296*4294967296^(j+1))=4294967296^(k+j+2)by rw[<-ED,<-BY];congr 1]at U;rw[c2]at U;exact U
theorem abp{m n s a:Nat}(H:m<4294967296^a)(hs:s<32)(I:1<=N)(G:N<=a)(C:2147483648<=D (n*2^s) (N - 1)):m*2^s / 4294967296^(a - N+1)<n*2^s:=by
 rw[Cm (cH _)];have h1:m*2^s<4294967296^a*2147483648:=by
  have h2:2^s<=2147483648:=by
   have:=Nat.pow_le_pow_right (n:=2) th (show s<=31 by omega);exact AI this th
  exact Bt (FB H (D5 th)) (CY _ h2)
 have h3:2147483648*4294967296^(N - 1)<=n*2^s:=by
  have h4:2147483648<=n*2^s / 4294967296^(N - 1):=AI C (Nat.mod_le _ _);exact(DL (cH _)).1 h4
 have h5:=C9 (4294967296^(a - N+1)) h3;rw[Dk,<-BY,show N - 1+(a - N+1)=a by omega,Cn]at h5;omega
theorem aU.kept{row:Option Nat}(h:aU w g L N)(G:w.grownBy w' row)(C:some g≠row):aU w' g L N:=h.block (G.block g h.lt C)
theorem Dig.setOther{b off:Nat}(h:Dig w b off L N)(p:A2)(u:Value)(hp:p.block≠b):Dig (w.setCell p u) b off L N:=λj C=>by
 rw[FD _ _ _ _ (by intro e;subst e;exact hp rfl)];exact h j C
theorem unshift(x s i:Nat)(hs:s<32):(D (x*2^s) (i+1)*4294967296+D (x*2^s) i) / 2^s % 4294967296=D x i:=by
 have hB:(4294967296:Nat)=2^s*2^(32 - s):=by rw[<-BY,show s+(32 - s)=32 by omega]
 have h2:0<2^s:=D5 th;have C:D (x*2^s) (i+1)*4294967296+D (x*2^s) i=x*2^s / 4294967296^i % (4294967296*4294967296):=by
  unfold D;rw[BL,<-CQ,Nat.mod_mul];omega
 have G:(4294967296:Nat)*4294967296=2^s*(2^(32 - s)*4294967296):=by rw[<-Dk,<-hB]
 rw[C,G,Nat.mod_mul_right_div_self,Nat.mod_mod_of_dvd _ (Nat.dvd_mul_left _ _),CQ,Cn (4294967296^i),<-CQ,Nat.mul_div_cancel _ h2];rfl
theorem Ai{p:Prop}(h:p:=by rfl):p:=h
set_option maxRecDepth 100000 in
set_option maxHeartbeats 4000000 in
theorem tM(va vb:Value)(m n:Nat)(w:World)(ha:IsN w va m)(hb:IsN w vb n)(hm:nl m<=1000000000000)(hn:nl n<=1000000000000)(cq:2<=nl n)(ej:n<=m):
  AH AE 200 #[va,vb] w λe w'=>iE w (m / n) (m % n) 0 e w':=by
 have bt:n≠0:=λh=>by rw[h,bj]at cq;omega
 obtain⟨a,ca,rfl,dr,ra⟩:=ha;obtain⟨b,cb,rfl,ds,rb⟩:=hb;have hw:=yj w a b (nl m) ca (nl n) cb;have c4:=ra.mono hw;have c5:=rb.mono hw;have ef:nl m<=9223372036854775807:=Aa
 have ek:nl n<=9223372036854775807:=Aa
 have hp:=dM bt;have gb:(((nl n:Nat):Int)==0)=false:=by rw[beq_eq_false_iff_ne];omega
 have f8:0<=dz m n:=by unfold dz;split<;>first | (exfalso;omega) | (split<;>omega)
 have fu:(((nl n:Nat):Int)==1)=false:=by rw[beq_eq_false_iff_ne];omega
 have cp:nl n<=nl m:=dN ej;have fb:=AF (aak bt);obtain⟨b1,o1,rfl,bq⟩:=rb.cells Aa;go_enter Tryz.func200,Tryz.ntmps200
 go_wp2_with fail
 go_quiet (first
  | (go_at_call 189;with_reducible exact d8 (dO a (nl m) ca m _ ef dr (c4.drewN _)))
  | (go_at_call 189;with_reducible exact d8 (dO (some ⟨b1,o1,none⟩) (nl n) cb n _ ek ds (c5.drewN _))))
 go_upto_region 2 with(fail)
 go_cut [25] (λe9 wx=>e9= .bool false/\Res2 w wx (w.heap.size+1+1) (w.heap.size+1+1+1))
 case first=>
  go_wp2_with fail
  go_meet;case rel=>exact⟨rfl,aF hw nq,Aa,Aa,Ag,Ak,Ak,Ak,Ak⟩
 case rest=>
  obtain⟨rfl,hr⟩:=hcut;clear hw c4 c5;go_wp2_with fail
  refine(fB a (some ⟨b1,o1,none⟩) _ _ m n _ (ra.mono hr.below) (rb.mono hr.below) Aa Aa).mono ?_;rintro e w1 ⟨rfl,q,rfl⟩;have hr1:=hr.drewN q;have c1:=(bq.mono hr1.below (bq.lt Aa)) (nl n - 1) Aa;have e1:((nl n:Int) - 1)=((nl n - 1:Nat):Int):=Aa
  have f9:=ci n (nl n - 1);have f7:=Lib.bitLen_le (D n (nl n - 1)) 32 Aa Aa;go_wp2_with fail
  refine(c_lz32 _ _ Aa Aa).mono ?_;rintro e w2 ⟨rfl,rfl⟩;rw[Int.toNat_natCast];obtain⟨s,hs,ac,am,an⟩:=yk bt;rw[hs];go_upto_region 11 with(fail)
  go_cut [13,14] (λeQ eS wx=>∃g1 g2 c2,eQ= .slice (some ⟨g1,0,none⟩) (nl m+1) (nl m+1)/\eS= .slice (some ⟨g2,0,none⟩) (nl n) c2/\aU wx g1 (nl m+1) (m*2^s)/\Dig wx g2 0 (nl n) (n*2^s)/\g2≠g1/\
    Res2 w wx (w.heap.size+1+1) (w.heap.size+1+1+1)/\w.heap.size+1+1+1<g1/\w.heap.size+1+1+1<g2)
  case first=>
   go_region_with (first
    | (go_at_call_of 243 (Value.slice a (nl m) (nl m));refine(rW a (nl m) (nl m) m s _ (ra.mono (hr.drewN _).below) hm ac).mono ?_;rintro e w2 ⟨g1,rfl,eb,J,bb⟩)
    | (go_at_call_of 243 (Value.slice (some ⟨b1,o1,none⟩) (nl n) (nl n));refine(rW _ (nl n) (nl n) n s _ (rb.mono ((hr.drewN _).after bb).below) hn ac).mono ?_;rintro e w3 ⟨g2,rfl,ga,em,b7⟩))
   go_wp2_with fail
   go_meet;have ap:=J.lt;have ez:=hr.size;have ff:wc.heap.size<=g1:=eb;have b6:=bb.size;have dq:wc.heap.size<=w2.heap.size:=b6;case rel=>exact⟨g1,g2,_,rfl,rfl,J.mono b7 J.lt,λj hj=>em.dig j Aa,Aa,((hr.drewN _).after bb).after b7,Aa,Aa⟩
  case rest=>
   obtain⟨g1,g2,c2,rfl,rfl,J,bp,ar,bz,cm,fs⟩:=hcut;clear hr hr1 c1 bq;go_upto_region 12 with(fail)
   go_cut [15] (λe0 wx=>∃I,e0= .slice (some ⟨I,0,none⟩) (nl m - nl n+1:Nat) (nl m - nl n+1:Nat)/\aU wx I (nl m - nl n+1) 0/\aU wx g1 (nl m+1) (m*2^s)/\Dig wx g2 0 (nl n) (n*2^s)/\
     Res2 w wx (w.heap.size+1+1) (w.heap.size+1+1+1)/\w.heap.size+1+1+1<I/\I≠g1/\I≠g2)
   case first=>
    have ap:=J.lt;have ed:=bp.lt Aa;have ez:=bz.size;have e2:((nl m:Int) - (nl n:Int)+1)=((nl m - nl n+1:Nat):Int):=Aa
    have E2:=AF e2;clear e2;go_wp2_with (at_make;refine bG rfl _ _ rfl _ _ _ _ (nl m - nl n+1) rfl rfl Aa Aa Aa ?_)
    go_meet;have hb:=(AL wc.heap.size wc).alloc (AK _) (zrow (nl m - nl n+1));case rel=>exact⟨_,rfl,aU.made _ _,J.mono hb ap,bp.mono hb ed,bz.after hb,Aa,Aa,Aa⟩
   case rest=>
    obtain⟨I,rfl,cr,a2,a1,cz,ab,b5,c9⟩:=hcut;clear J bp bz;go_wp2_with fail
    go_loopw [16] (λe6 wr=>∃k:Nat,k<=nl m - nl n+1/\e6= .int .i64 ((k:Int) - 1)/\aU wr I (nl m - nl n+1) (co (m*2^s) (n*2^s) k)/\aU wr g1 (nl m+1) (dP (m*2^s) (n*2^s) k)/\
      Dig wr g2 0 (nl n) (n*2^s)/\Res2 w wr (w.heap.size+1+1) (w.heap.size+1+1+1))
     (λi _=>(intOf i+1).toNat)
    case atStart=>
     have cd:=abp (n:=n) (dZ m) ac Aa cp an;have e3:dP (m*2^s) (n*2^s) (nl m - nl n+1)=m*2^s:=vK cd;have e4:co (m*2^s) (n*2^s) (nl m - nl n+1)=0:=by unfold co;rw[Cw cd];rfl
     exact⟨nl m - nl n+1,AK _,by rw[show(((nl m - nl n+1:Nat):Int) - 1)=((nl m - nl n:Nat):Int)by omega],by rw[e4];exact cr,by rw[e3];exact a2,a1,cz⟩
    case round=>
     obtain⟨k,hk,rfl,ho,hu,hd,a0⟩:=hrel;clear cr a2 a1 cz;have ak:0<n*2^s:=Ed Aa (D5 th)
     cases k with
     | zero=>
      simp only[show(((0:Nat):Int) - 1)= -1 from rfl];have ao:co (m*2^s) (n*2^s) 0=m / n:=by unfold co;rw[Dy,Nat.one_mul,Nat.div_one];exact Nat.mul_div_mul_right _ _ (D5 th)
      have au:dP (m*2^s) (n*2^s) 0=m % n*2^s:=by rw[yl];exact Nat.mul_mod_mul_right _ _ _
      rw[ao]at ho;rw[au]at hu;have a5:m % n<4294967296^nl n:=Dl (Bs _ Aa) (dZ n);clear ao au hd;go_upto_region 17 with(fail)
      go_cut [17] (λe7 wx=>∃g4,e7= .slice (some ⟨g4,0,none⟩) (nl n) (nl n)/\aU wx g4 (nl n) 0/\aU wx I (nl m - nl n+1) (m / n)/\Dig wx g1 0 (nl m+1) (m % n*2^s)/\
       Res2 w wx (w.heap.size+1+1) (w.heap.size+1+1+1)/\g1<g4/\I<g4)
      case first=>
       have ap:=hu.lt;have cl:=ho.lt;go_wp2_with (at_make;refine bG rfl _ _ rfl _ _ _ _ (nl n) rfl rfl Aa Aa Aa ?_)
       go_meet;have hb:=(AL wr.heap.size wr).alloc (AK _) (zrow (nl n));case rel=>exact⟨_,rfl,aU.made _ _,ho.mono hb cl,hu.dig.mono hb ap,a0.after hb,ap,cl⟩
      case rest=>
       obtain⟨g4,rfl,ep,cu,dT,et,c8,a9⟩:=hcut;clear ho hu a0;go_wp2_with fail
       go_loopw [128] (λc6 wq=>∃i:Nat,i<=nl n/\c6= .int .i64 i/\aU wq g4 (nl n) (m % n % 4294967296^i)/\AG g4 wc wq)
        (λi _=>nl n - (intOf i).toNat)
       case atStart=>exact⟨0,Bc _,rfl,by simpa [Cx]using ep,AL _ _⟩
       case round=>
        obtain⟨i,hi,rfl,ad,av⟩:=hrel;by_cases hlt:i<nl n
        ·have cc:=dT.mono av c8;have c1:=cc i Aa;have c2:=cc (i+1) Aa;simp only[Bh]at c1 c2;have fc:=ci (m % n*2^s) i;have fd:=ci (m % n*2^s) (i+1);have gc:=or32 (D (m % n*2^s) (i+1)) (D (m % n*2^s) i) Aa Aa Aa Aa;have c3:=ad.cell hlt;have f3:=ad.frozen i;have b4:Hid (aU (wr.setCell ⟨g4,i,none⟩ (.int .u32 ((D (m % n) i:Nat):Int))) g4 (nl n) (m % n % 4294967296^(i+1))):=by
          show aU _ _ _ _;rw[<-o5];exact ad.store hlt (ci _ _)
         have H:=av.setCell (p:=⟨g4,i,none⟩) (AK _) (.int .u32 ((D (m % n) i:Nat):Int));have x1:Bd.wrap ((i:Int)+1)=(i:Int)+1:=by rw[BQ];omega
         have y1:((i:Int)+1).toNat=i+1:=Aa
         have z1:BD.wrap ((D (m % n*2^s) (i+1):Nat):Int)=((D (m % n*2^s) (i+1):Nat):Int):=by rw[IntKind.wrap_u64];omega
         have z2:BD.wrap ((D (m % n*2^s) i:Nat):Int)=((D (m % n*2^s) i:Nat):Int):=by rw[IntKind.wrap_u64];omega
         have z3:BD.wrap (((D (m % n*2^s) (i+1):Nat):Int)*4294967296)=((D (m % n*2^s) (i+1):Nat):Int)*4294967296:=by rw[IntKind.wrap_u64];omega
         have c7:=AF (unshift (m % n) s i ac);have z4:IntKind.u32.wrap ((((D (m % n*2^s) (i+1):Nat):Int)*4294967296+((D (m % n*2^s) i:Nat):Int)) / 2^s)=((D (m % n) i:Nat):Int):=by
          rw[<-c7.out,IntKind.wrap_u32];simp
         go_wp2_with fail
         refine Di Ab ?_
         change wpAny _ _ _ _ _ _ _ (Cy _)
         refine Be (i:=0) (v:=?v21_0_1) rfl Ab Ab Ab (λ_ _ _ h=>h) (A1 ⟨Ai,?hy21_0_1⟩) ?_;case hy21_0_1=>(intro w;go_simp;try with_reducible rfl)
         try simp only[AN,AQ,AR,AS]
         refine Be (i:=1) (v:=?v21_1_2) rfl Ab Ab Ab (λ_ _ _ h=>h) (A1 ⟨Ai,?hy21_1_2⟩) ?_;case hy21_1_2=>(intro w;go_simp;try with_reducible rfl)
         try simp only[AN,AQ,AR,AS]
         refine Be (i:=2) (v:=?v21_2_3) rfl Ab Ab Ab (λ_ _ _ h=>h) (A1 ⟨Ai,?hy21_2_3⟩) ?_;case hy21_2_3=>(intro w;go_simp;try with_reducible rfl)
         try simp only[AN,AQ,AR,AS]
         refine Be (i:=3) (v:=?v21_3_4) rfl Ab Ab Ab (λ_ _ _ h=>h) (A1 ⟨Ai,?hy21_3_4⟩) ?_;case hy21_3_4=>(intro w;go_simp;try with_reducible rfl)
         try simp only[AN,AQ,AR,AS]
         refine Be (i:=4) (v:=?v21_4_5) rfl Ab Ab Ab (λ_ _ _ h=>h) (A1 ⟨Ai,?hy21_4_5⟩) ?_;case hy21_4_5=>(intro w;go_simp;try with_reducible rfl)
         try simp only[AN,AQ,AR,AS]
         refine Be (i:=5) (v:=?v21_5_6) rfl Ab Ab Ab (λ_ _ _ h=>h) (A1 ⟨Ai,?hy21_5_6⟩) ?_;case hy21_5_6=>(intro w;go_simp;first | with_reducible rfl | rw[if_pos Aa];try with_reducible rfl)
         try simp only[AN,AQ,AR,AS]
         refine Be (i:=9) (v:=?v21_9_7) rfl Ab Ab Ab (λ_ _ _ h=>h) (A1 ⟨Ai,?hy21_9_7⟩) ?_;case hy21_9_7=>(intro w;go_simp;try with_reducible rfl)
         try simp only[AN,AQ,AR,AS]
         refine Be (i:=10) (v:=?v21_10_8) rfl Ab Ab Ab (λ_ _ _ h=>h) (A1 ⟨Ai,?hy21_10_8⟩) ?_;case hy21_10_8=>(intro w;go_simp;try with_reducible rfl)
         try simp only[AN,AQ,AR,AS]
         refine Be (i:=11) (v:=?v21_11_9) rfl Ab Ab Ab (λ_ _ _ h=>h) (A1 ⟨Ai,?hy21_11_9⟩) ?_;case hy21_11_9=>(intro w;go_simp;first | with_reducible rfl | rw[if_pos Aa];try with_reducible rfl)
         try simp only[AN,AQ,AR,AS]
         refine Be (i:=15) (v:=?v21_15_10) rfl Ab Ab Ab (λ_ _ _ h=>h) (A1 ⟨Ai,?hy21_15_10⟩) ?_;case hy21_15_10=>(intro w;go_simp;try with_reducible rfl)
         try simp only[AN,AQ,AR,AS]
         refine BT (rs:=[6,12]) Ab Ag ?_;refine BI rfl (λK G=> ?_) ?_
         ·go_simp
          refine G _ _ ?_;clear G K;try simp only[AN,AQ,AR,AS]
          refine Be (i:=7) (v:=?v21_7_12) rfl Ab Ab Ab (λ_ _ _ h=>h) (A1 ⟨Ai,?hy21_7_12⟩) ?_;case hy21_7_12=>(intro w;go_simp;try with_reducible rfl)
          try simp only[AN,AQ,AR,AS]
          refine Be (i:=8) (v:=?v21_8_13) rfl Ab Ab Ab (λ_ _ _ h=>h) (A1 ⟨Ai,?hy21_8_13⟩) ?_;case hy21_8_13=>(intro w;go_simp;try with_reducible rfl)
          try simp only[AN,AQ,AR,AS]
          refine BT (rs:=[12]) Ab Ag ?_;refine BI rfl (λK G=> ?_) BS;go_simp;refine G _ _ ?_;clear G K;try simp only[AN,AQ,AR,AS]
          refine Be (i:=13) (v:=?v21_13_15) rfl Ab Ab Ab (λ_ _ _ h=>h) (A1 ⟨Ai,?hy21_13_15⟩) ?_;case hy21_13_15=>(intro w;go_simp;try with_reducible rfl)
          try simp only[AN,AQ,AR,AS]
          refine Be (i:=14) (v:=?v21_14_16) rfl Ab Ab Ab (λ_ _ _ h=>h) (A1 ⟨Ai,?hy21_14_16⟩) ?_;case hy21_14_16=>(intro w;go_simp;try with_reducible rfl)
          try simp only[AN,AQ,AR,AS]
          refine Be (i:=16) (v:=?v21_16_17) rfl Ab Ab Ab (λ_ _ _ h=>h) (A1 ⟨Ai,?hy21_16_17⟩) ?_;case hy21_16_17=>(intro w;go_simp;try with_reducible rfl)
          try simp only[AN,AQ,AR,AS]
          refine Be (i:=17) (v:=?v21_17_18) rfl Ab Ab Ab (λ_ _ _ h=>h) (A1 ⟨Ai,?hy21_17_18⟩) ?_;case hy21_17_18=>(intro w;go_simp;try with_reducible rfl)
          try simp only[AN,AQ,AR,AS]
          refine Be (i:=18) (v:=?v21_18_19) rfl Ab Ab Ab (λ_ _ _ h=>h) (A1 ⟨Ai,?hy21_18_19⟩) ?_;case hy21_18_19=>(intro w;go_simp;first | with_reducible rfl | rw[if_pos Aa];try with_reducible rfl)
          try simp only[AN,AQ,AR,AS]
          refine BT (rs:=[19]) Ab Ag ?_;refine BI rfl (λK G=> ?_) BS;go_simp;refine G _ _ ?_;clear G K;refine CL Ab ?_ _;go_wp2_with fail
          go_roundw
          case rel=>exact⟨i+1,Aa,by go_num,b4.out.block rfl,⟨H.os,H.tape,H.output,H.size,H.block⟩⟩
          case measure=>simp[intOf];omega
         refine BI rfl (λK G=> ?_) ?_
         ·go_simp
          refine G _ _ ?_;clear G K;try simp only[AN,AQ,AR,AS]
          refine Be (i:=13) (v:=?v21_13_21) rfl Ab Ab Ab (λ_ _ _ h=>h) (A1 ⟨Ai,?hy21_13_21⟩) ?_;case hy21_13_21=>(intro w;go_simp;try with_reducible rfl)
          try simp only[AN,AQ,AR,AS]
          refine BT (rs:=[6]) Ab Ag ?_;refine BI rfl (λK G=> ?_) BS;go_simp;refine G _ _ ?_;clear G K;try simp only[AN,AQ,AR,AS]
          refine Be (i:=7) (v:=?v21_7_23) rfl Ab Ab Ab (λ_ _ _ h=>h) (A1 ⟨Ai,?hy21_7_23⟩) ?_;case hy21_7_23=>(intro w;go_simp;try with_reducible rfl)
          try simp only[AN,AQ,AR,AS]
          refine Be (i:=8) (v:=?v21_8_24) rfl Ab Ab Ab (λ_ _ _ h=>h) (A1 ⟨Ai,?hy21_8_24⟩) ?_;case hy21_8_24=>(intro w;go_simp;try with_reducible rfl)
          try simp only[AN,AQ,AR,AS]
          refine Be (i:=14) (v:=?v21_14_25) rfl Ab Ab Ab (λ_ _ _ h=>h) (A1 ⟨Ai,?hy21_14_25⟩) ?_;case hy21_14_25=>(intro w;go_simp;try with_reducible rfl)
          try simp only[AN,AQ,AR,AS]
          refine Be (i:=16) (v:=?v21_16_26) rfl Ab Ab Ab (λ_ _ _ h=>h) (A1 ⟨Ai,?hy21_16_26⟩) ?_;case hy21_16_26=>(intro w;go_simp;try with_reducible rfl)
          try simp only[AN,AQ,AR,AS]
          refine Be (i:=17) (v:=?v21_17_27) rfl Ab Ab Ab (λ_ _ _ h=>h) (A1 ⟨Ai,?hy21_17_27⟩) ?_;case hy21_17_27=>(intro w;go_simp;try with_reducible rfl)
          try simp only[AN,AQ,AR,AS]
          refine Be (i:=18) (v:=?v21_18_28) rfl Ab Ab Ab (λ_ _ _ h=>h) (A1 ⟨Ai,?hy21_18_28⟩) ?_;case hy21_18_28=>(intro w;go_simp;first | with_reducible rfl | rw[if_pos Aa];try with_reducible rfl)
          try simp only[AN,AQ,AR,AS]
          refine BT (rs:=[19]) Ab Ag ?_;refine BI rfl (λK G=> ?_) BS;go_simp;refine G _ _ ?_;clear G K;refine CL Ab ?_ _;go_wp2_with fail
          go_roundw
          case rel=>exact⟨i+1,Aa,by go_num,b4.out.block rfl,⟨H.os,H.tape,H.output,H.size,H.block⟩⟩
          case measure=>simp[intOf];omega
         exact BS
        ·obtain rfl:i=nl n:=Aa
         have e1:=Cl a5;rw[e1]at ad;clear e1 a5;have cx:=cu.mono av a9;have ew:=et.step av (Dl ab a9);have ee:=ad.lt;go_wp2_with fail
         refine(gC _ (nl m - nl n+1) _ (m / n) _ Aa (AK _) cx.rw').mono ?_;rintro e w3 ⟨rfl,be⟩;have ay:=ew.after be;have er:=aP.of_own (base:=w.heap.size+1+1+1+1) cx be ab;have a3:=ad.mono be ee;go_wp2_with fail
         refine(gC _ (nl n) _ (m % n) _ Aa (AK _) a3.rw').mono ?_;rintro e w4 ⟨rfl,bi⟩;have Y:=ay.after bi;have es:=er.mono bi;have eP:=aP.of_own (base:=w.heap.size+1+1+1+1) a3 bi (Dl ab a9);obtain⟨q1,q2,q3,q4⟩:=Ba Y.cell1 (Ba Y.cell2 (Ba Y.frozen1 Y.frozen2));go_wp2;exact Y.ret es eP rfl rfl rfl rfl
     | succ k=>
      have hC:=remAt_lt (U:=m*2^s) (k:=k) ak am;have hW:dP (m*2^s) (n*2^s) (k+1) / 4294967296^k<n*2^s*4294967296:=by rw[nF];exact win_lt _ _ _ ak
      have HK:=knuth cq am an hC hW;have HQ:=quo_step (m*2^s) (n*2^s) k ak;have HR:=ym (m*2^s) (n*2^s) k ak;generalize da:dP (m*2^s) (n*2^s) (k+1)=C at *;generalize db:n*2^s=V at *;have u0:=hu.cell (p:=k+nl n) Aa;have u1:=hu.cell (p:=k+nl n - 1) Aa;have u2:=hu.cell (p:=k+nl n - 2) Aa;have v1:=hd (nl n - 1) Aa;have v2:=hd (nl n - 2) Aa;simp only[Bh]at v1 v2;have d0:=ci C (k+nl n);have d1:=ci C (k+nl n - 1);have d2:=ci C (k+nl n - 2);have d3:=ci V (nl n - 1);have d4:=ci V (nl n - 2);have e:(((k+1:Nat):Int) - 1)=(k:Int):=Aa
      have e3:((k:Int)+(nl n:Int) - 1)=((k+nl n - 1:Nat):Int):=Aa
      have e4:((k:Int)+(nl n:Int) - 2)=((k+nl n - 2:Nat):Int):=Aa
      have e5:((nl n:Int) - 2)=((nl n - 2:Nat):Int):=Aa
      simp only[e];clear e;have x1:Bd.wrap ((k:Int)+(nl n:Int))=(k:Int)+(nl n:Int):=by rw[BQ];omega
      have y1:((k:Int)+(nl n:Int)).toNat=k+nl n:=Aa
      have x2:Bd.wrap ((k+nl n - 1:Nat):Int)=((k+nl n - 1:Nat):Int):=by rw[BQ];omega
      have x3:Bd.wrap ((k+nl n - 2:Nat):Int)=((k+nl n - 2:Nat):Int):=by rw[BQ];omega
      have x4:Bd.wrap ((nl n - 1:Nat):Int)=((nl n - 1:Nat):Int):=by rw[BQ];omega
      have x5:Bd.wrap ((nl n - 2:Nat):Int)=((nl n - 2:Nat):Int):=by rw[BQ];omega
      have fz:=HK.1;have a6:=AF HK.2;have a7:=AF HQ;have b3:=AF HR;have b2:=AF hC;clear HK HQ HR hC hW db da;go_upto_region 16 with(fail)
      refine Di Ab ?_
      change wpAny _ _ _ _ _ _ _ (Cy _)
      refine Be (i:=0) (v:=?v16_0_1) rfl Ab Ab Ab (λ_ _ _ h=>h) (A1 ⟨Ai,?hy16_0_1⟩) ?_;case hy16_0_1=>(intro w;go_simp;try with_reducible rfl)
      try simp only[AN,AQ,AR,AS]
      refine Be (i:=1) (v:=?v16_1_2) rfl Ab Ab Ab (λ_ _ _ h=>h) (A1 ⟨Ai,?hy16_1_2⟩) ?_;case hy16_1_2=>(intro w;go_simp;try with_reducible rfl)
      try simp only[AN,AQ,AR,AS]
      refine Be (i:=2) (v:=?v16_2_3) rfl Ab Ab Ab (λ_ _ _ h=>h) (A1 ⟨Ai,?hy16_2_3⟩) ?_;case hy16_2_3=>(intro w;go_simp;try with_reducible rfl)
      try simp only[AN,AQ,AR,AS]
      refine Be (i:=3) (v:=?v16_3_4) rfl Ab Ab Ab (λ_ _ _ h=>h) (A1 ⟨Ai,?hy16_3_4⟩) ?_;case hy16_3_4=>(intro w;go_simp;try with_reducible rfl)
      try simp only[AN,AQ,AR,AS]
      refine Be (i:=4) (v:=?v16_4_5) rfl Ab Ab Ab (λ_ _ _ h=>h) (A1 ⟨Ai,?hy16_4_5⟩) ?_;case hy16_4_5=>(intro w;go_simp;try with_reducible rfl)
      try simp only[AN,AQ,AR,AS]
      refine Be (i:=5) (v:=?v16_5_6) rfl Ab Ab Ab (λ_ _ _ h=>h) (A1 ⟨Ai,?hy16_5_6⟩) ?_;case hy16_5_6=>(intro w;go_simp;try with_reducible rfl)
      try simp only[AN,AQ,AR,AS]
      refine Be (i:=6) (v:=?v16_6_7) rfl Ab Ab Ab (λ_ _ _ h=>h) (A1 ⟨Ai,?hy16_6_7⟩) ?_;case hy16_6_7=>(intro w;go_simp;try with_reducible rfl)
      try simp only[AN,AQ,AR,AS]
      refine Be (i:=7) (v:=?v16_7_8) rfl Ab Ab Ab (λ_ _ _ h=>h) (A1 ⟨Ai,?hy16_7_8⟩) ?_;case hy16_7_8=>(intro w;go_simp;try with_reducible rfl)
      try simp only[AN,AQ,AR,AS]
      refine Be (i:=8) (v:=?v16_8_9) rfl Ab Ab Ab (λ_ _ _ h=>h) (A1 ⟨Ai,?hy16_8_9⟩) ?_;case hy16_8_9=>(intro w;go_simp;try with_reducible rfl)
      try simp only[AN,AQ,AR,AS]
      refine Be (i:=9) (v:=?v16_9_10) rfl Ab Ab Ab (λ_ _ _ h=>h) (A1 ⟨Ai,?hy16_9_10⟩) ?_;case hy16_9_10=>(intro w;go_simp;first | with_reducible rfl | rw[if_pos Aa];try with_reducible rfl)
      try simp only[AN,AQ,AR,AS]
      refine Be (i:=11) (v:=?v16_11_11) rfl Ab Ab Ab (λ_ _ _ h=>h) (A1 ⟨Ai,?hy16_11_11⟩) ?_;case hy16_11_11=>(intro w;go_simp;try with_reducible rfl)
      try simp only[AN,AQ,AR,AS]
      refine Be (i:=12) (v:=?v16_12_12) rfl Ab Ab Ab (λ_ _ _ h=>h) (A1 ⟨Ai,?hy16_12_12⟩) ?_;case hy16_12_12=>(intro w;go_simp;try with_reducible rfl)
      try simp only[AN,AQ,AR,AS]
      refine Be (i:=13) (v:=?v16_13_13) rfl Ab Ab Ab (λ_ _ _ h=>h) (A1 ⟨Ai,?hy16_13_13⟩) ?_;case hy16_13_13=>(intro w;go_simp;try with_reducible rfl)
      try simp only[AN,AQ,AR,AS]
      refine Be (i:=14) (v:=?v16_14_14) rfl Ab Ab Ab (λ_ _ _ h=>h) (A1 ⟨Ai,?hy16_14_14⟩) ?_;case hy16_14_14=>(intro w;go_simp;try with_reducible rfl)
      try simp only[AN,AQ,AR,AS]
      refine Be (i:=15) (v:=?v16_15_15) rfl Ab Ab Ab (λ_ _ _ h=>h) (A1 ⟨Ai,?hy16_15_15⟩) ?_;case hy16_15_15=>(intro w;go_simp;try with_reducible rfl)
      try simp only[AN,AQ,AR,AS]
      refine Be (i:=16) (v:=?v16_16_16) rfl Ab Ab Ab (λ_ _ _ h=>h) (A1 ⟨Ai,?hy16_16_16⟩) ?_;case hy16_16_16=>(intro w;go_simp;first | with_reducible rfl | rw[if_pos Aa];try with_reducible rfl)
      try simp only[AN,AQ,AR,AS]
      refine Be (i:=18) (v:=?v16_18_17) rfl Ab Ab Ab (λ_ _ _ h=>h) (A1 ⟨Ai,?hy16_18_17⟩) ?_;case hy16_18_17=>(intro w;go_simp;try with_reducible rfl)
      try simp only[AN,AQ,AR,AS]
      refine Be (i:=19) (v:=?v16_19_18) rfl Ab Ab Ab (λ_ _ _ h=>h) (A1 ⟨Ai,?hy16_19_18⟩) ?_;case hy16_19_18=>(intro w;go_simp;try with_reducible rfl)
      try simp only[AN,AQ,AR,AS]
      refine Be (i:=20) (v:=?v16_20_19) rfl Ab Ab Ab (λ_ _ _ h=>h) (A1 ⟨Ai,?hy16_20_19⟩) ?_;case hy16_20_19=>(intro w;go_simp;try with_reducible rfl)
      try simp only[AN,AQ,AR,AS]
      refine Be (i:=21) (v:=?v16_21_20) rfl Ab Ab Ab (λ_ _ _ h=>h) (A1 ⟨Ai,?hy16_21_20⟩) ?_;case hy16_21_20=>(intro w;go_simp;try with_reducible rfl)
      try simp only[AN,AQ,AR,AS]
      refine Be (i:=22) (v:=?v16_22_21) rfl Ab Ab Ab (λ_ _ _ h=>h) (A1 ⟨Ai,?hy16_22_21⟩) ?_;case hy16_22_21=>(intro w;go_simp;try with_reducible rfl)
      try simp only[AN,AQ,AR,AS]
      refine Be (i:=23) (v:=?v16_23_22) rfl Ab Ab Ab (λ_ _ _ h=>h) (A1 ⟨Ai,?hy16_23_22⟩) ?_;case hy16_23_22=>(intro w;go_simp;first | with_reducible rfl | rw[if_pos Aa];try with_reducible rfl)
      try simp only[AN,AQ,AR,AS]
      refine Be (i:=25) (v:=?v16_25_23) rfl Ab Ab Ab (λ_ _ _ h=>h) (A1 ⟨Ai,?hy16_25_23⟩) ?_;case hy16_25_23=>(intro w;go_simp;try with_reducible rfl)
      try simp only[AN,AQ,AR,AS]
      refine Be (i:=26) (v:=?v16_26_24) rfl Ab Ab Ab (λ_ _ _ h=>h) (A1 ⟨Ai,?hy16_26_24⟩) ?_;case hy16_26_24=>(intro w;go_simp;try with_reducible rfl)
      try simp only[AN,AQ,AR,AS]
      refine Be (i:=27) (v:=?v16_27_25) rfl Ab Ab Ab (λ_ _ _ h=>h) (A1 ⟨Ai,?hy16_27_25⟩) ?_;case hy16_27_25=>(intro w;go_simp;try with_reducible rfl)
      try simp only[AN,AQ,AR,AS]
      refine Be (i:=28) (v:=?v16_28_26) rfl Ab Ab Ab (λ_ _ _ h=>h) (A1 ⟨Ai,?hy16_28_26⟩) ?_;case hy16_28_26=>(intro w;go_simp;first | with_reducible rfl | rw[if_pos Aa];try with_reducible rfl)
      try simp only[AN,AQ,AR,AS]
      refine Be (i:=30) (v:=?v16_30_27) rfl Ab Ab Ab (λ_ _ _ h=>h) (A1 ⟨Ai,?hy16_30_27⟩) ?_;case hy16_30_27=>(intro w;go_simp;try with_reducible rfl)
      try simp only[AN,AQ,AR,AS]
      refine Be (i:=31) (v:=?v16_31_28) rfl Ab Ab Ab (λ_ _ _ h=>h) (A1 ⟨Ai,?hy16_31_28⟩) ?_;case hy16_31_28=>(intro w;go_simp;try with_reducible rfl)
      try simp only[AN,AQ,AR,AS]
      refine Be (i:=32) (v:=?v16_32_29) rfl Ab Ab Ab (λ_ _ _ h=>h) (A1 ⟨Ai,?hy16_32_29⟩) ?_;case hy16_32_29=>(intro w;go_simp;try with_reducible rfl)
      try simp only[AN,AQ,AR,AS]
      refine Be (i:=33) (v:=?v16_33_30) rfl Ab Ab Ab (λ_ _ _ h=>h) (A1 ⟨Ai,?hy16_33_30⟩) ?_;case hy16_33_30=>(intro w;go_simp;first | with_reducible rfl | rw[if_pos Aa];try with_reducible rfl)
      try simp only[AN,AQ,AR,AS]
      refine cT (i:=10) (t:=35) (v:=?v16_10_31) rfl th rfl rfl Ab Ab (λ_ _ _ h=>h) ⟨Ai,?hy16_10_31⟩ ?_;case hy16_10_31=>(go_simp;try with_reducible rfl)
      try simp only[AN,AQ,AR,AS]
      refine cT (i:=17) (t:=35) (v:=?v16_17_32) rfl th rfl rfl Ab Ab (λ_ _ _ h=>h) ⟨Ai,?hy16_17_32⟩ ?_;case hy16_17_32=>(go_simp;try with_reducible rfl)
      try simp only[AN,AQ,AR,AS]
      refine cT (i:=24) (t:=35) (v:=?v16_24_33) rfl th rfl rfl Ab Ab (λ_ _ _ h=>h) ⟨Ai,?hy16_24_33⟩ ?_;case hy16_24_33=>(go_simp;try with_reducible rfl)
      try simp only[AN,AQ,AR,AS]
      refine cT (i:=29) (t:=35) (v:=?v16_29_34) rfl th rfl rfl Ab Ab (λ_ _ _ h=>h) ⟨Ai,?hy16_29_34⟩ ?_;case hy16_29_34=>(go_simp;try with_reducible rfl)
      try simp only[AN,AQ,AR,AS]
      refine BT (rs:=[34]) Ab Ag ?_;refine BI rfl (λK G=> ?_) BS;go_simp;refine G _ _ ?_;clear G K;try simp only[AN,AQ,AR,AS]
      refine BT (rs:=[35]) Ab Ag ?_;refine BI rfl (λK G=> ?_) BS;go_simp;refine(c_guess _ _ _ _ _ _ Aa Aa Aa Aa Aa Aa).mono ?_;rintro e w5 ⟨rfl,q5,rfl⟩;refine G _ _ ?_;clear G K;try simp only[AN,AQ,AR,AS]
      refine BT (rs:=[36]) Ab Ag ?_;refine BI rfl (λK G=> ?_) BS;go_simp;refine(c_reduce g1 (nl m+1) _ g2 _ (nl n) k C V (gd 4294967296 ((D C (k+nl n)*4294967296+D C (k+nl n - 1))*4294967296+D C (k+nl n - 2)) (D V (nl n - 1)*4294967296+D V (nl n - 2))) (wr.drewN (1+q5)) (hu.block rfl) hd am ar Aa Aa (Nat.lt_of_le_of_lt (Nat.min_le_left _ _) th) ak b2.out a6.out.1 a6.out.2).mono ?_;rintro e w6 ⟨rfl,b0,aa⟩;rw[b3.out]at b0;have b8:AG g1 wr w6:=(aF (AL g1 wr) (1+q5)).trans (eL aa g1 (Nat.le_of_lt hu.lt) (λk hk=>by cases hk;exact AK _));have ay:=a0.step b8 cm;have ax:aU w6 I _ _:=aU.kept (show aU (wr.drewN (1+q5)) I _ _ from ho.block rfl) aa (by simpa using b5);have b9:Dig w6 g2 0 (nl n) V:=Dig.kept (show Dig (wr.drewN (1+q5)) g2 0 (nl n) V from hd) aa (by simpa using ar);clear ho hu hd a0 aa b8 a6 b2 b3;refine G _ _ ?_;clear G K;try simp only[AN,AQ,AR,AS]
      have s0:=ax.cell (p:=k) Aa;have f0:=ax.frozen k;have aq:=a7.out.2;have a4:=ax.store (p:=k) Aa aq;rw[a7.out.1]at a4;have eB:=b0.setOther ⟨I,k,none⟩ (.int .u32 ((C / 4294967296^k / V:Nat):Int)) (by exact b5);have ea:=b9.setOther ⟨I,k,none⟩ (.int .u32 ((C / 4294967296^k / V:Nat):Int)) c9;have Y:=ay.step ((AL I w6).setCell (p:=⟨I,k,none⟩) (AK _) (.int .u32 ((C / 4294967296^k / V:Nat):Int))) ab;clear ax b0 b9 ay a7;have f6:=AF aq;clear aq;generalize C / 4294967296^k / V=Z at *;refine Be (i:=37) (v:=?v16_37_38) rfl Ab Ab Ab (λ_ _ _ h=>h) (A1 ⟨Ai,?hy16_37_38⟩) ?_;case hy16_37_38=>(intro w;go_simp;first | with_reducible rfl | rw[if_pos Aa];try with_reducible rfl)
      try simp only[AN,AQ,AR,AS]
      refine BT (rs:=[38]) Ab Ag ?_;refine BI rfl (λK G=> ?_) BS;go_simp;refine G _ _ ?_;clear G K;refine CL Ab ?_ _;go_wp2_with fail
      go_roundw
      case rel=>exact⟨k,Aa,by go_num,a4,eB,ea,Y⟩
      case measure=>simp[intOf]
theorem gL(va vb:Value)(m n:Nat)(w:World)(ha:IsN w va m)(hb:IsN w vb n)(C:nl m<=1000000000000)(hn:nl n<=1000000000000)(h0:n≠0):
  AH AE 200 #[va,vb] w λe w'=>iE w (m / n) (m % n) 0 e w':=by
 by_cases hlt:m<n
 ·have:=rL va vb m n w ha hb C hn hlt;rwa [Cw hlt,Cl hlt]
 ·by_cases h1:nl n=1
  ·exact tK va vb m n w ha hb C h1 Aa
  ·have:=dM h0;exact tM va vb m n w ha hb C hn Aa Aa
structure Two(w wx:World)(rc g1 g2 x y:Nat):Prop where
 below:AG w.heap.size w wx
 res:aN wx rc none 0 0
 rbase:w.heap.size<=rc
 ne1:rc≠g1
 ne2:rc≠g2
 ne:g1≠g2
 base1:w.heap.size<=g1
 base2:w.heap.size<=g2
 var1:iD w.heap.size wx g1 x
 var2:iD w.heap.size wx g2 y
theorem aap{w1:World}{rc C G K Z c6 I cy:Nat}{V Y x y:Option A2}(hb:AG w.heap.size w w1)(kr:aN w1 rc none 0 0)(J:aN w1 C V K Z)(v6:aN w1 G Y U c6)
  (h1:w.heap.size<=rc)(h2:rc≠C)(h3:rc≠G)(h4:C≠G)(h5:w.heap.size<=C)(h6:w.heap.size<=G)
  (hx:aP w.heap.size w1 (.agg #[.slice x (nl M) I]) M)(hy:aP w.heap.size w1 (.agg #[.slice y (nl N) cy]) N):
  Two w ((w1.setCell ⟨C,0,none⟩ (.slice x (nl M) I)).setCell ⟨G,0,none⟩ (.slice y (nl N) cy)) rc C G M N:=by
 have H:=v6.setOther ⟨C,0,none⟩ (.slice x (nl M) I) h4;exact⟨(hb.setCell (p:=⟨C,0,none⟩) h5 _).setCell (p:=⟨G,0,none⟩) h6 _,(kr.setOther _ _ (λe=>h2 e.symm)).setOther _ _ (λe=>h3 e.symm),h1,h2,h3,h4,h5,h6,
  ⟨x,I,J.set.setOther _ _ (λe=>h4 e.symm),(hx.setVar J).setVar H⟩,⟨y,cy,H.set,(hy.setVar J).setVar H⟩⟩
def rY(base:Nat)(a b:Option A2)(m ca n cb:Nat):Nat->Value->World->Prop
 | 0,v,_=>∃so,v= .slice so 0 0
 | 5,v,_=>∃so,v= .slice so 0 0
 | 2,v,_=>v= .slice a (nl m) ca
 | 7,v,_=>v= .slice b (nl n) cb
 | 3,v,w=>∃x c,v= .slice x (nl m) c/\nl m<=c/\iW w base x (nl m) m
 | 8,v,w=>∃x c,v= .slice x (nl n) c/\nl n<=c/\iW w base x (nl n) n
 | 4,v,w=>aP base w v m
 | 9,v,w=>aP base w v n
 | 10,v,w=>∃g,v= .pointer (some ⟨g,0,none⟩)/\base<=g/\aN w g none 0 0
 | 11,v,w=>∃g,v= .pointer (some ⟨g,0,none⟩)/\base<=g/\aN w g none 0 0
 | _,_,_=>True
theorem yn(base:Nat)(a b:Option A2)(m C n G:Nat)(i:Nat)(v:Value)(w w':World)(h:rY base a b m C n G i v w)(hb:AG w.heap.size w w'):rY base a b m C n G i v w':=by
 unfold rY at h⊢;split at h
 all_goals first
  | exact h
  | (obtain⟨x,c,rfl,hc,I⟩:=h;exact⟨x,c,rfl,hc,I.mono hb⟩)
  | exact aP.mono h hb
  | (obtain⟨g,rfl,H,hv⟩:=h;exact⟨g,rfl,H,hv.mono hb hv.lt⟩)
theorem start3(w:World)(a b:Option A2)(L C M G:Nat):
  AG w.heap.size w (((w.alloc (.cells #[.slice a L C] 31)).alloc (.cells #[.slice b M G] 31)).alloc (.cells #[.slice none 0 0] 31)).drew/\
  aN (((w.alloc (.cells #[.slice a L C] 31)).alloc (.cells #[.slice b M G] 31)).alloc (.cells #[.slice none 0 0] 31)).drew w.heap.size a L C/\
  aN (((w.alloc (.cells #[.slice a L C] 31)).alloc (.cells #[.slice b M G] 31)).alloc (.cells #[.slice none 0 0] 31)).drew (w.heap.size+1) b M G/\
  aN (((w.alloc (.cells #[.slice a L C] 31)).alloc (.cells #[.slice b M G] 31)).alloc (.cells #[.slice none 0 0] 31)).drew (w.heap.size+1+1) none 0 0:=by
 have I:AG (w.alloc (.cells #[.slice a L C] 31)).heap.size (w.alloc (.cells #[.slice a L C] 31)) ((w.alloc (.cells #[.slice a L C] 31)).alloc (.cells #[.slice b M G] 31)):=(AL _ _).alloc (AK _) _;have H:AG ((w.alloc (.cells #[.slice a L C] 31)).alloc (.cells #[.slice b M G] 31)).heap.size ((w.alloc (.cells #[.slice a L C] 31)).alloc (.cells #[.slice b M G] 31))
  (((w.alloc (.cells #[.slice a L C] 31)).alloc (.cells #[.slice b M G] 31)).alloc (.cells #[.slice none 0 0] 31)).drew:=aF ((AL _ _).alloc (AK _) _) 1
 refine⟨aF ((((AL _ _).alloc (AK _) _).alloc Ag _).alloc (by simp;omega) _) 1,?_,?_,?_⟩
 ·exact((aN.made w a L C).mono I Ag).mono H (by simp;omega)
 ·have h:=(aN.made (w.alloc (.cells #[.slice a L C] 31)) b M G).mono H Ag;rw[CE]at h;exact h
 ·have h:=aN.made ((w.alloc (.cells #[.slice a L C] 31)).alloc (.cells #[.slice b M G] 31)) none 0 0;rw[CE,CE]at h;exact h
set_option maxRecDepth 100000 in
set_option maxHeartbeats 4000000 in
theorem rM(va vb:Value)(m n:Nat)(w:World)(ha:IsN w va m)(hb:IsN w vb n)(hm:nl m<=1000000000000)(hn:nl n<=1000000000000):
  AH AE 199 #[va,vb] w λe w'=>cW w (AM m n) e w':=by
 obtain⟨a,ca,rfl,cm,ra⟩:=ha;obtain⟨b,cb,rfl,cp,rb⟩:=hb;go_enter Tryz.func199,Tryz.ntmps199
 go_upto_region 1 with(fail)
 go_cut [5,6] (λs5 s6 wx=>∃V g6,s5= .pointer (some ⟨V,0,none⟩)/\s6= .pointer (some ⟨g6,0,none⟩)/\Two w wx (w.heap.size+1+1) V g6 m n)
 case first=>
  obtain⟨ad,k2,k3,k4⟩:=start3 w a b (nl m) ca (nl n) cb;refine Di Ab ?_
  change wpAny _ _ _ _ _ _ _ (Cy _)
  generalize Cy _=w0 at *;refine gh (i:=1) (d:=some 11) (v:=?v1_1) rfl rfl Ab Ab Ab (λ_ _ _ h=>h) (A1 ⟨Ai,?hy1_1⟩) ?_;case hy1_1=>(intro w;go_simp;try with_reducible rfl)
  try simp only[AN,AQ,AR,AS]
  refine gh (i:=6) (d:=some 16) (v:=?v1_6) rfl rfl Ab Ab Ab (λ_ _ _ h=>h) (A1 ⟨Ai,?hy1_6⟩) ?_;case hy1_6=>(intro w;go_simp;try with_reducible rfl)
  try simp only[AN,AQ,AR,AS]
  refine iC (fuel:=2) [(0,10),(2,12),(3,13),(4,14),(5,15),(7,17),(8,18),(9,19),(10,5),(11,6)] 4 (λi=>i==10 || i==11) (rY w0.heap.size a b m ca n cb) Ab Ab th (λi _ v w1 w2 h hb=>yn _ _ _ _ _ _ _ i v w1 w2 h hb) ?_ ?_ ?_
  ·intro i _ a2 v w1 h;simp only[DP,beq_iff_eq]at a2;rcases a2 with rfl | rfl<;>(obtain⟨g,rfl,_,hv⟩:=h;exact hv.lt)
  ·intro p hp f w1 I Y K C;have U:=ad.trans (I.mono ad.size);simp only[A3,List.not_mem_nil,or_false]at hp;rcases hp with rfl | rfl | rfl | rfl | rfl | rfl | rfl | rfl | rfl | rfl
   ·refine C8 rfl (λK' G=> ?_)
    replace C:=λv H h1 h2 h3=>G _ _ (C v H h1 h2 h3)
    clear G;simp only[cK,Cb,Cg,AN,AQ,AR,AS]at C⊢;go_simp;exact C _ _ ⟨_,rfl⟩ ((AL _ _).alloc (AK _) _) Ag
   ·refine C8 rfl (λK' G=> ?_)
    replace C:=λv H h1 h2 h3=>G _ _ (C v H h1 h2 h3)
    clear G;simp only[cK,Cb,Cg,AN,AQ,AR,AS]at C⊢;have c1:=(k2.mono I k2.lt).cell;go_simp;exact C _ _ rfl (AL _ _) Ag
   ·simp only[cK,Cb,Cg,AN,AQ,AR,AS]at C⊢;obtain⟨so,e0⟩:=Y 0 th th;have e2:=Y 2 th th;simp only[rY]at e2;refine gK rfl rfl rfl (.tmp 10) (.tmp 12) rfl w0.heap.size I.size so ?_ a (nl m) ca m ?_ (ra.mono U) Aa ?_
    ·exact e0
    ·exact e2
    ·intro a' c' w' h1 h2 h3;exact C _ _ ⟨a',c',rfl,h2,h1⟩ h3 Ag
   ·refine C8 rfl (λK' G=> ?_)
    replace C:=λv H h1 h2 h3=>G _ _ (C v H h1 h2 h3)
    clear G;simp only[cK,Cb,Cg,AN,AQ,AR,AS]at C⊢;obtain⟨x,c,e0,hc,ab⟩:=Y 3 th th;go_simp;simp only[e0]at C;refine(gC x (nl m) c m _ Aa hc (ab.rw' (dZ m))).mono ?_;rintro e w2 ⟨rfl,Z⟩;exact C _ _ ((ab.mono Z).newN (AK _)) Z Ag
   ·refine C8 rfl (λK' G=> ?_)
    replace C:=λv H h1 h2 h3=>G _ _ (C v H h1 h2 h3)
    clear G;simp only[cK,Cb,Cg,AN,AQ,AR,AS]at C⊢;go_simp;exact C _ _ ⟨_,rfl⟩ ((AL _ _).alloc (AK _) _) Ag
   ·refine C8 rfl (λK' G=> ?_)
    replace C:=λv H h1 h2 h3=>G _ _ (C v H h1 h2 h3)
    clear G;simp only[cK,Cb,Cg,AN,AQ,AR,AS]at C⊢;have c1:=(k3.mono I k3.lt).cell;go_simp;exact C _ _ rfl (AL _ _) Ag
   ·simp only[cK,Cb,Cg,AN,AQ,AR,AS]at C⊢;obtain⟨so,e0⟩:=Y 5 th th;have e2:=Y 7 th th;simp only[rY]at e2;refine gK rfl rfl rfl (.tmp 15) (.tmp 17) rfl w0.heap.size I.size so ?_ b (nl n) cb n ?_ (rb.mono U) Aa ?_
    ·exact e0
    ·exact e2
    ·intro a' c' w' h1 h2 h3;exact C _ _ ⟨a',c',rfl,h2,h1⟩ h3 Ag
   ·refine C8 rfl (λK' G=> ?_)
    replace C:=λv H h1 h2 h3=>G _ _ (C v H h1 h2 h3)
    clear G;simp only[cK,Cb,Cg,AN,AQ,AR,AS]at C⊢;obtain⟨x,c,e0,hc,ab⟩:=Y 8 th th;go_simp;simp only[e0]at C;refine(gC x (nl n) c n _ Aa hc (ab.rw' (dZ n))).mono ?_;rintro e w2 ⟨rfl,Z⟩;exact C _ _ ((ab.mono Z).newN (AK _)) Z Ag
   ·refine C8 rfl (λK' G=> ?_)
    replace C:=λv H h1 h2 h3=>G _ _ (C v H h1 h2 h3)
    clear G;simp only[cK,Cb,Cg,AN,AQ,AR,AS]at C⊢;go_simp;exact C _ _ ⟨_,rfl,I.size,aN.made _ _ _ _⟩ ((AL _ _).alloc (AK _) _) (λ_=>AK _)
   ·refine C8 rfl (λK' G=> ?_)
    replace C:=λv H h1 h2 h3=>G _ _ (C v H h1 h2 h3)
    clear G;simp only[cK,Cb,Cg,AN,AQ,AR,AS]at C⊢;go_simp;exact C _ _ ⟨_,rfl,I.size,aN.made _ _ _ _⟩ ((AL _ _).alloc (AK _) _) (λ_=>AK _)
  ·intro f w1 I Y an;have U:=ad.trans (I.mono ad.size);obtain⟨V,e5,cz,v5⟩:=Y 10 th;obtain⟨g6,e6,c4,v6⟩:=Y 11 th;have av:=an 10 th 11 th rfl rfl th;rw[e5,e6]at av;have am:V≠g6:=av;clear av;have c9:=k4.lt;have bp:=ad.size;have h4:aP w.heap.size w1 _ _:=aP.weaken (Y 4 th) bp;have h9:aP w.heap.size w1 _ _:=aP.weaken (Y 9 th) bp;obtain⟨x,cx,e4,b1,be⟩:=h4;obtain⟨y,cy,e9,b2,bi⟩:=h9;have hx:aP w.heap.size w1 (.agg #[.slice x (nl m) cx]) m:=⟨x,cx,rfl,b1,be⟩;have hy:aP w.heap.size w1 (.agg #[.slice y (nl n) cy]) n:=⟨y,cy,rfl,b2,bi⟩;have kr:=k4.mono I k4.lt;have b4:w.heap.size+1+1≠V:=Aa
   have b5:w.heap.size+1+1≠g6:=Aa
   have hT:=aap U kr v5 v6 Aa b4 b5 am Aa Aa hx hy;have c5:=v5.cell;have f5:=v5.frozen;have bq:=v6.setOther ⟨V,0,none⟩ (.slice x (nl m) cx) am;have c6:=bq.cell;have f6:=bq.frozen;clear Y an be bi;simp only[cK,Cb,Cg,AN,AQ,AR,AS,e4,e9,e5,e6];refine BT (rs:=[12]) Ab Ag ?_;refine BI rfl (λK C=> ?_) BS;go_simp;refine C _ _ ?_;clear C K;refine BT (rs:=[13]) Ab Ag ?_;refine BI rfl (λK C=> ?_) BS;go_simp;refine C _ _ ?_;clear C K;refine CL Ab ?_ _;go_wp2_with fail
   go_meet;case rel=>exact⟨V,g6,rfl,rfl,hT⟩
 case rest=>
  obtain⟨V,g6,rfl,rfl,hT⟩:=hcut;clear ra rb;go_wp2_with fail
  go_loopw [] (λwr=>∃x y:Nat,AM x y=AM m n/\nl x<=1000000000000/\nl y<=1000000000000/\Two w wr (w.heap.size+1+1) V g6 x y)
   (λwr=>valAt wr g6)
  case atStart=>exact⟨m,n,rfl,hm,hn,hT⟩
  case round=>
   obtain⟨x,y,ak,hx,hy,hs⟩:=hrel;obtain⟨ax,cx,vx,nx⟩:=hs.var1;obtain⟨ay,cy,vy,ny⟩:=hs.var2;have c5:=vx.cell;have c6:=vy.cell;have cr:=hs.res.cell;have fr:=hs.res.frozen;by_cases hy0:y=0
   ·subst hy0;rw[bj]at c6;rw[Nat.gcd_zero_right]at ak;have bt:=AF ak;clear ak;have a4:aP w.heap.size (wr.setCell ⟨w.heap.size+1+1,0,none⟩ (.slice ax (nl x) cx)) (.agg #[.slice ax (nl x) cx]) (AM m n):=by rw[<-bt.out];exact nx.setVar hs.res
    have au:=(hs.res.set (a':=ax) (L':=nl x) (c':=cx)).cell;have a3:=hs.below.setCell (p:=⟨w.heap.size+1+1,0,none⟩) hs.rbase (.slice ax (nl x) cx);go_wp2;exact A6 (eI rfl _ _ (w.heap.size+1+1) _ rfl au) rfl ⟨_,rfl,a4,a3⟩
   ·have c7:=dM hy0;go_wp2_with fail
    refine(gL _ _ x y _ nx.isN ny.isN hx hy hy0).mono ?_;rintro e w1 ⟨vq,vr,rfl,⟨aq,cq,rfl,cu,b6⟩,⟨ar,J,rfl,b0,bb⟩,I⟩;have f5:=vx.frozen;have f6:=vy.frozen;go_upto_region 4 with(fail)
    have aa:AG wr.heap.size wr ((w1.alloc (.cells #[.slice aq (nl (x / y)) cq] 31)).alloc (.cells #[.slice ar (nl (x % y)) J] 31)).drew:=
     aF (I.trans (((AL w1.heap.size w1).alloc (AK _) _).alloc Ag _ |>.mono I.size)) 1
    have bz:AG w1.heap.size w1 ((w1.alloc (.cells #[.slice aq (nl (x / y)) cq] 31)).alloc (.cells #[.slice ar (nl (x % y)) J] 31)).drew:=
     aF (((AL w1.heap.size w1).alloc (AK _) _).alloc Ag _) 1
    have v8:aN ((w1.alloc (.cells #[.slice aq (nl (x / y)) cq] 31)).alloc (.cells #[.slice ar (nl (x % y)) J] 31)).drew (w1.heap.size+1) ar (nl (x % y)) J:=by
     have h:=aN.made (w1.alloc (.cells #[.slice aq (nl (x / y)) cq] 31)) ar (nl (x % y)) J;rw[CE]at h;exact h
    refine Di Ab ?_
    change wpAny _ _ _ _ _ _ _ (Cy _)
    generalize Cy _=w3 at *;have nr:aP w.heap.size w3 (.agg #[.slice ar (nl (x % y)) J]) (x % y):=aP.mono (aP.weaken (base:=wr.heap.size) ⟨ar,J,rfl,b0,bb⟩ hs.below.size) bz;have b8:=ny.mono aa;have a0:=vx.mono aa vx.lt;have a1:=vy.mono aa vy.lt;have b7:=hs.res.mono aa hs.res.lt;have ap:=aap (hs.below.trans (aa.mono hs.below.size)) b7 a0 a1 hs.rbase hs.ne1 hs.ne2 hs.ne hs.base1 hs.base2 b8 nr;have b3:w1.heap.size+1≠V:=by have:=vx.lt;have:=I.size;omega
    have b9:=v8.setOther ⟨V,0,none⟩ (.slice ay (nl y) cy) (λe=>b3 e.symm);have ao:=a1.setOther ⟨V,0,none⟩ (.slice ay (nl y) cy) hs.ne;have a7:=hs.var2.valAt;have a9:=ap.var2.valAt;have ac:=Bs x (Nat.pos_of_ne_zero hy0);have a5:AM y (x % y)=AM m n:=by rw[<-ak,Nat.gcd_comm x y,Nat.gcd_rec y x,Nat.gcd_comm]
    have a6:nl (x % y)<=1000000000000:=AI (dN (Nat.le_of_lt ac)) hy;clear c5 c6 cr fr f5 f6 b6 bb;have c6:=a1.cell;have c8:=v8.cell;have f5:=a0.frozen;have c5:=a0.cell;have cc:=ao.cell;have cl:=ao.frozen;have cd:=b9.cell;refine ec (i:=0) (t:=2) (d:=some 31) (v:=?v4_0_1) rfl rfl th rfl rfl Ab Ab (λ_ _ _ h=>h) ⟨Ai,?hy4_0_1⟩ ?_;case hy4_0_1=>(go_simp;try with_reducible rfl)
    try simp only[AN,AQ,AR,AS]
    refine BT (rs:=[1,2]) Ab Ag ?_;refine BI rfl (λK C=> ?_) ?_
    ·go_simp
     refine C _ _ ?_;clear C K;try simp only[AN,AQ,AR,AS]
     refine BT (rs:=[2]) Ab Ag ?_;refine BI rfl (λK C=> ?_) BS;go_simp;refine C _ _ ?_;clear C K;try simp only[AN,AQ,AR,AS]
     refine BT (rs:=[3]) Ab Ag ?_;refine BI rfl (λK C=> ?_) BS;go_simp;refine C _ _ ?_;clear C K;try simp only[AN,AQ,AR,AS]
     refine CL Ab ?_ _;go_wp2_with fail
     go_roundw
     case rel=>exact⟨y,x % y,a5,hy,a6,ap⟩
     case measure=>rw[a7,a9];exact ac
    refine BI rfl (λK C=> ?_) ?_
    ·go_simp
     refine C _ _ ?_;clear C K;try simp only[AN,AQ,AR,AS]
     refine BT (rs:=[1]) Ab Ag ?_;refine BI rfl (λK C=> ?_) BS;go_simp;refine C _ _ ?_;clear C K;try simp only[AN,AQ,AR,AS]
     refine BT (rs:=[3]) Ab Ag ?_;refine BI rfl (λK C=> ?_) BS;go_simp;refine C _ _ ?_;clear C K;try simp only[AN,AQ,AR,AS]
     refine CL Ab ?_ _;go_wp2_with fail
     go_roundw
     case rel=>exact⟨y,x % y,a5,hy,a6,ap⟩
     case measure=>rw[a7,a9];exact ac
    exact BS
def bk(W:World)(v:Value)(e:Ending)(w':World):Prop:=e= .returned v/\AG W.heap.size W w'
theorem below2(w:World)(o p:Obj):AG w.heap.size w ((w.alloc o).alloc p):=((AL _ _).alloc (AK _) o).alloc Ag p
theorem yp(w:World)(a b:Option A2)(L C M G:Nat):
  AG w.heap.size w ((w.alloc (.cells #[.slice a L C] 31)).alloc (.cells #[.slice b M G] 31))/\
  aN ((w.alloc (.cells #[.slice a L C] 31)).alloc (.cells #[.slice b M G] 31)) w.heap.size a L C/\
  aN ((w.alloc (.cells #[.slice a L C] 31)).alloc (.cells #[.slice b M G] 31)) (w.heap.size+1) b M G:=by
 refine⟨below2 w _ _,(aN.made w a L C).mono ((AL _ _).alloc (AK _) _) Ag,?_⟩;have h:=aN.made (w.alloc (.cells #[.slice a L C] 31)) b M G;rw[CE]at h;exact h
theorem yt(va vb:Value)(m n:Nat)(w:World)(ha:IsN w va m)(hb:IsN w vb n)(hm:nl m<=1000000000000)(hn:nl n<=1000000000000):
  AH AE 180 #[va,vb] w λe w'=>bk w (.bool (decide (m=n))) e w':=by
 obtain⟨a,K,rfl,ad,ra⟩:=ha;obtain⟨b,U,rfl,V,rb⟩:=hb;have hw:=below2 w (.cells #[.slice a (nl m) K] 31) (.cells #[.slice b (nl n) U] 31);by_cases hL:nl m=nl n
 ·have G:=λh=>D_ext (M:=m) (N:=n) hL h
  have HL:=AF hL;rw[<-hL]at rb V;have HX:=AF G;clear G;have Z:(((nl m:Nat):Int) !=((nl m:Nat):Int))=false:=Ag
  rw[<-hL];clear hL;obtain⟨I,k2,k3⟩:=yp w a b (nl m) K (nl m) U;go_enter Tryz.func180,Tryz.ntmps180
  go_upto_region 1 with(fail)
  go_cut [12] (λac wx=>ac= .bool false/\AG w.heap.size w wx/\aN wx w.heap.size a (nl m) K/\aN wx (w.heap.size+1) b (nl m) U)
  case first=>
   go_wp2_with fail
   go_meet;case rel=>exact⟨rfl,I,k2,k3⟩
  case rest=>
  obtain⟨rfl,C,v2,v3⟩:=hcut;clear I k2 k3 hw;have aa:=ra.mono C;have ab:=rb.mono C;have c2:=v2.cell;have c3:=v3.cell;go_wp2;go_loopw [5] (λi wr=>∃k:Nat,k<=nl m/\i= .int .i64 (k:Int)/\Hid (∀j,j<k->D m j=D n j)/\∃q,wr=wc.drewN q) (λi _=>nl m - (intOf i).toNat)
  case atStart=>exact⟨0,Bc _,rfl,AF (λj h=>Aa),0,rfl⟩
  case round=>
   obtain⟨k,hk,rfl,HR,q,rfl⟩:=hrel;by_cases hlt:k<nl m
   ·obtain⟨b1,o1,rfl,h1⟩:=aa.cells Aa;obtain⟨b2,o2,rfl,h2⟩:=ab.cells Aa;have d1:=h1 k hlt;have d2:=h2 k hlt;by_cases hd:D m k=D n k
    ·have Y:(((D m k:Nat):Int) !=((D n k:Nat):Int))=false:=by rw[hd];simp
     have J:Hid (∀j,j<k+1->D m j=D n j):=AF (λj hj=>by
      rcases Bl j k with h | h
      ·exact HR.out j h
      ·rw[show j=k by omega];exact hd)
     clear hd;go_wp2;go_quiet (fail)
     go_wp2;go_roundw
     case rel=>exact⟨k+1,Aa,by go_num,J,_,rfl⟩
     case measure=>simp[intOf];omega
    ·have Y:(((D m k:Nat):Int) !=((D n k:Nat):Int))=true:=by rw[bne_iff_ne];omega
     have H:m≠n:=λh=>hd (by rw[h])
     clear hd;go_wp2;go_quiet (fail)
     go_wp2;go_ret;exact⟨by simp[H],aF (aF C _) _⟩
   ·obtain rfl:k=nl m:=Aa
    go_wp2;go_ret;exact⟨by have h:=HX.out (λj hj=>HR.out j (by rw[HL.out];exact hj));simp[h],aF C _⟩
 ·have Z:(((nl m:Nat):Int) !=((nl n:Nat):Int))=true:=by rw[bne_iff_ne];omega
  have H:m≠n:=λh=>hL (by rw[h])
  go_enter Tryz.func180,Tryz.ntmps180
  go_wp2;go_ret;exact⟨by simp[H],hw⟩
theorem vL(va:Value)(L m:Nat)(w:World)(ha:IsR w va L m)(hL:L<=9223372036854775807):
  AH AE 286 #[va] w λe w'=>bk w (.bool (decide (nl m=L))) e w':=by
 obtain⟨a,K,rfl,Z,U⟩:=ha;have G:AG w.heap.size w (w.alloc (.cells #[.slice a L K] 31)):=(AL _ _).alloc (AK _) _;have v1:=aN.made w a L K;have J:=U.mono G;have aa:nl m<=L:=aI.2 U.lt;go_enter Tryz.func286,Tryz.ntmps286
 by_cases h0:L=0
 ·subst h0;have:nl m=0:=Aa
  go_wp2;go_ret;exact⟨by simp[this],G⟩
 ·obtain⟨b1,o1,rfl,h1⟩:=J.cells Aa;have d1:=h1 (L - 1) Aa;have e1:((L:Int) - 1)=((L - 1:Nat):Int):=Aa
  have hb:((L:Int)==0)=false:=by rw[beq_eq_false_iff_ne];omega
  have ab:=ci m (L - 1);have c1:=v1.cell;by_cases hz:D m (L - 1)=0
  ·have C:nl m≠L:=λh=>by
    have H:m≠0:=λY=>by rw[Y,bj]at h;omega
    exact aak H (by rw[h];exact hz)
   have I:(((D m (L - 1):Nat):Int) !=0)=false:=by rw[hz];rfl
   clear hz;go_wp2;go_ret;exact⟨by simp[C],G⟩
  ·have C:nl m=L:=by
    rcases Bl (L - 1) (nl m)with h | h
    ·omega
    ·exact absurd (iw h) hz
   have I:(((D m (L - 1):Nat):Int) !=0)=true:=by rw[bne_iff_ne];omega
   clear hz;have V:=AF C;clear C;go_wp2;go_ret;exact⟨by simp[V.out],G⟩
def pF(N L:Nat):List Value:=(BO L).map λj=>AW .u32 ((D N j:Nat):Int)
def GR(w:World)(base:Nat)(v:Value)(L N:Nat):Prop:=N<4294967296^L/\w.ownsRow base 237 1 v L (pF N L)
theorem GR.nil(w:World)(base:Nat):GR w base (.slice none 0 0) 0 0:=⟨th,World.ownsRow_nil _ _ _ _⟩
theorem GR.open(h:GR w base v L N):
  ∃a c,v= .slice a L c/\L<=c/\Rw w a L N/\(0<L->∃g,a=some ⟨g,0,none⟩/\base<=g/\g<w.heap.size/\∀p,w.frozen? ⟨g,p,none⟩=false):=by
 rcases h.2.2 with⟨rfl,h0⟩ | ⟨g,c,C,rfl,hb,I,J,K,U,G⟩
 ·exact⟨none,0,by rw[h0],Aa,⟨h.1,λH=>Aa⟩,λH=>Aa⟩
 ·refine⟨some ⟨g,0,none⟩,c,rfl,J,⟨h.1,λH=>⟨g,0,rfl,λj V=> ?_⟩⟩,λH=>⟨g,rfl,hb,(A8.1 I).1,λp=>Dh w g p C _ I⟩⟩;rw[Bh,CB w g j C _ (0,0) I];have h1:(C.toList.take (L*1))[j]? =some (.int .u32 ((D N j:Nat):Int)):=by rw[G];simp[pF,V]
  rw[BP]at h1;split at h1
  ·simpa using h1
  ·cases h1
variable{e:Nat}
theorem digL_set{p:Nat}(hp:p<L)(C:e<4294967296):(pF N L).set p (.int .u32 (e:Int))=pF (upd N p e) L:=by
 apply List.ext_getElem?;intro i;rw[List.getElem?_set];unfold pF;by_cases hi:p=i
 ·subst hi;simp[hp,pB N p e C]
 ·rw[if_neg hi];simp only[List.getElem?_map,List.getElem?_range]
  cases hr:(BO L)[i]? with
  | none=>simp
  | some x=>
   simp only[Option.map_some];have G:x=i:=by
    have:=A5.1 hr;obtain⟨h1,h2⟩:=this;simpa using h2.symm
   subst G;rw[i6 N p e x C Aa]
theorem GR.store{p:Nat}(h:GR w base (.slice (some ⟨g,0,none⟩) L c) L N)(hp:p<L)(K:e<4294967296):
  GR (w.setCell ⟨g,p,none⟩ (.int .u32 (e:Int))) base (.slice (some ⟨g,0,none⟩) L c) L (upd N p e):=by
 refine⟨lm h.1 hp K,by unfold pF;simp,?_⟩;rcases h.2.2 with⟨h1,h0⟩ | ⟨Y,V,G,hv,hb,U,J,H,I,C⟩
 ·cases h1
 ·cases hv;refine .inr ⟨g,c,G.setIfInBounds p (.int .u32 (e:Int)),rfl,hb,CH w g p G _ _ U,J,H,by simpa using I,?_⟩;rw[Array.toList_setIfInBounds,List.take_set,C,digL_set hp K]
theorem abq(N L e:Nat)(C:N<4294967296^L)(G:e<4294967296):pF N L++ [.int .u32 (e:Int)]=pF (N+e*4294967296^L) (L+1):=by
 unfold pF;rw[List.range_succ,List.map_append]
 congr 1
 ·apply Ea;intro j H;have I:j<L:=by simpa using H
  have:D (N+e*4294967296^L) j=D N j:=by
   unfold D;obtain⟨d,rfl⟩:∃d,L=j+1+d:=⟨L - (j+1),Aa⟩;rw[BY,BL,show e*(4294967296^j*4294967296*4294967296^d)=4294967296^j*(4294967296*(e*4294967296^d))by grind,Nat.add_mul_div_left _ _ (cH j),Nat.add_mul_mod_self_left]
  rw[this]
 ·have:D (N+e*4294967296^L) L=e:=by
   unfold D;rw[Cn,Nat.add_mul_div_left _ _ (cH L),Cw C,Bh,Cl G]
  simp[this]
theorem GR.of_own(C:N<4294967296^L)(G:e<4294967296)(h:w.ownsRow base 237 1 v (L+1) (pF N L++ [.int .u32 (e:Int)])):GR w base v (L+1) (N+e*4294967296^L):=by
 refine⟨?_,by rw[<-abq N L e C G];exact h⟩;rw[BL];have h1:(e+1)*4294967296^L<=4294967296*4294967296^L:=C9 _ G;rw[CZ,Nat.one_mul]at h1;rw[Cn (4294967296^L)];have:=C;omega
theorem GR.keep(h:GR w base v L N)(C:w.grownBy w' none):GR w' base v L N:=⟨h.1,h.2.kept C (by cases hv:v.ownBlock<;>simp)⟩
theorem cD{w0:World}{rest:List Oper} 
  (hg:o.guard=none)(s x:AZ)(U:o.op=Op.call {callee:=Callee.builtin Builtin.append,args:=#[s,x],argTypes:=#[29,29]})
  (base:Nat)(v:Value)(L N e:Nat)(hs:a.eval s=v)(K:GR w0 base v L N)(C:base<=w0.heap.size)(hx:a.eval x= .slice (some ⟨w0.heap.size,0,none⟩) 1 1)(he:e<4294967296)(hL:L+1<=30000000000000)
  (hK:∀v' w',GR w' base v' (L+1) (N+e*4294967296^L)->AG base w0 w'->base<=w'.heap.size->wpList AE ops Q rest (a.put o.dst v') w'):
  wpList AE ops Q (o::rest) a (w0.alloc (.cells #[.int .u32 (e:Int)] 237)):=by
 obtain⟨i,hi,V,Y,Z⟩:=info_parts o6;have H:=K.keep (World.grownBy_alloc w0 (.cells #[.int .u32 (e:Int)] 237) none);have G:AG base w0 (w0.alloc (.cells #[.int .u32 (e:Int)] 237)):=(AL _ _).alloc C _;refine wpList_append_own _ hg s x 29 U base 237 i (.int .u32 0) 1 4 Eb hi V Y Z rfl th v L (pF N L) hs H.2
  ⟨w0.heap.size,0,none⟩ 1 1 [.int .u32 (e:Int)] hx rfl ?_ ?_ (by simp only[maxLen];omega) Aa (AI C G.size) ?_
 ·intro j u I
  match j,I with
  | 0,I=>simp at I;subst I;simp[Addr.add]
  | (j+1),I=>simp at I
 ·intro u hu;simp at hu;subst hu;rfl
 ·intro v' w' ho J _;exact hK v' w' (GR.of_own K.1 he ho) (G.grown J (AI C G.size) (λk hk=>(H.2.lt k hk).1)) (AI C (AI G.size J.size))
def by'(s:ByteArray)(i:Nat):Nat:=if h:i<s.size then(s[i]'h).toNat else 0
def vM(s:ByteArray):Nat->Nat
 | 0=>0
 | k+1=>10*vM s k+(by' s k - 48)
def goodTo(s:ByteArray)(k:Nat):Prop:=∀j,j<k->48<=by' s j/\by' s j<=57
def RetP(W:World)(N:Nat)(c:Int)(e:Ending)(w':World):Prop:=∃v,e= .returned (.tuple #[v,.int .i64 c])/\aP W.heap.size w' v N/\AG W.heap.size W w'
structure ParseIs(s:ByteArray)(N:Nat)(c:Int):Prop where
 short:s.size=0->N=0/\c=1
 long:400<s.size->N=0/\c=3
 zero:1<s.size->s.size<=400->by' s 0=48->N=0/\c=2
 bad:0<s.size->s.size<=400->¬goodTo s s.size->N=0/\c=2
 good:0<s.size->s.size<=400->(by' s 0=48->s.size=1)->goodTo s s.size->N=vM s s.size/\c=0
theorem rN{s:ByteArray}(h:s.size≠0):s.toList.isEmpty=false:=by
 rw[ByteArray.toList_eq]
 cases hs:s.data.toList with
 | nil=>
  exfalso;apply h;have:=congrArg List.length hs;rw[Array.length_toList]at this;exact this
 | cons _ _=>rfl
theorem GR.newN{a:Option A2}(h:GR w base (.slice a L c) L N)(hb:AG w.heap.size w w'):aP base w' (.agg #[.slice a (nl N) (nl N)]) N:=by
 obtain⟨a',V,e,I,H,G⟩:=h.open;cases e;have hl:nl N<=L:=aI.2 h.1;refine⟨a,nl N,rfl,AK _,λY=> ?_⟩;obtain⟨g,rfl,K,C,hf⟩:=G Aa;obtain⟨b,o,e,J⟩:=H.cells Aa;cases e;exact⟨g,0,rfl,K,λj U=>(hb.cell (p:=⟨g,0+j,none⟩) C).trans (J j Aa),λj U=>(hb.frozen (p:=⟨g,0+j,none⟩) C).trans (hf _)⟩
end Go.Proofs.YtggfmklppkioeaaGreat
