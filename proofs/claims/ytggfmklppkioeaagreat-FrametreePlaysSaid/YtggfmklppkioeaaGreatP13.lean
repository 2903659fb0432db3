/- Trees of frames: Attach, where it is refused. Trees of frames: a link more in memory. Trees of frames: Attach, where it does. Trees of frames: Attach. What is true of a tree depends on the links of each child only. Trees of frames: a track changes in memory. Small facts about cells and rows that stand before the trees and the tracks' walks. Whole numbers of small kinds: rests, conversions. Poses of steps; copies of poses. What arguments of the type []api.Stamped are: rows of stamps. Trees of frames: Set, Fixed. The rest of a code that begins with a region; acts of which some slots are known: a region is walked operation by operation, and the act stays a letter. Steps of plain regions over acts of which some slots are known. -/
import Derived.Test.YtggfmklppkioeaaGreatP12
import Derived.Deep.AppendLies
import Derived.Deep.RegionHeld3
import Derived.Deep.MidRow
import Derived.Laws.ResultCell
import Derived.WalkKit
import Derived.ProofKit
import Derived.OpenShut
import Derived.ShutString
import Derived.ChangeOld
import Derived.Below
import Derived.Test.YtggfmklppkioeaaGreatRows
import Derived.SizedLaws
import Derived.Deep.Strs
import Derived.Deep.Slices
import Derived.OrdersHeld
import Derived.RegionTactic
import Derived.Tactics
import Derived.Deep.Quiet
namespace Go.Proofs.YtggfmklppkioeaaGreat
set_option linter.unusedSimpArgs false
set_option linter.unusedVariables false
set_option maxRecDepth 100000
open Go.RowKit
open _root_.Go.RowKit renaming Below → AG
open _root_.Go renaming Calls → AH,Operand → AZ,Program → A0,heap_alloc_new → BE,heap_setCell_same → CH,wpAnyH_take → BX,wpOp_step → C8,wp_region_list → CC
open _root_.Go.Act renaming put → AN
open _root_.Array renaming getElem?_eq_none → E7,getElem?_eq_some_iff → A8,getElem?_setIfInBounds → Eh
open _root_.Go.RowKit.Below renaming refl → AL
open _root_.Go.Builtin renaming append_ → Ca
open _root_.Go.Code renaming region → Dc
open _root_.Go.Ending renaming returned → A4
open _root_.Go.Exit renaming inBlock → D4
open _root_.Go.Instr renaming fieldAt → Ei,indexAt → DF,loadAt → CN,lookup → CJ,mapUpdate → D1,storeAt → EH
open _root_.Int renaming tmod_eq_emod_of_nonneg → Cz
open _root_.Go.IntKind renaming i64 → Bd,wrap_i64 → BQ
open _root_.Go.Lib renaming hid → AF
open _root_.List renaming append_assoc → DG,append_nil → Ds,flatMap_append → Df,flatMap_cons → Cq,getElem?_append_right → Bq,getElem?_eq_getElem → AU,getElem?_map → BB,getElem?_take → BP,getElem_of_mem → BN,getLast?_eq_getElem? → Fg,length → Ef,length_cons → Bz,length_pos_iff → ER,map_append → Cu,map_congr_left → Ea,map_cons → Bu,map_map → CG,map_nil → BZ,map_toArray → C1,mem_append → AJ,mem_cons → A3,mem_cons_of_mem → Bg,mem_cons_self → Bj,mem_flatMap → Br,mem_map → Bi,mem_of_getElem? → Bb,nodup_append → BJ,nodup_cons → Bv
open _root_.Nat renaming le_refl → AK,le_trans → AI,lt_of_lt_of_le → Bt,zero_add → Bh
open _root_.Go.Oper renaming upon_value → El,wp → Bn
open _root_.Option renaming bind_some → Em,mem_toList → D2
open _root_.Or renaming inl → A1
open _root_.Go.Region renaming noSelect → E8,ready → BV,wanted → A7
open _root_.Go.Result renaming andThen → AX,andThen_ok → Da
open _root_.Go.Sem renaming run_bind → AO,run_pure → BC
open _root_.Go.Proofs.Tryz renaming func67 → CU,ntmps67 → CV,prog → AE,underlying142 → EQ,underlying5 → DJ
open _root_.Go.Value renaming ownBlock → CI
open _root_.Go.World renaming cell?_of_block → BM
section
variable {w:World} {t m:Nat} {E:List Ch} {c p:Nm} {f:Int}
theorem zO(hc:Nam c)(hp:Nam p)(h:¬(cj c/\cj p)):AH AE 67 #[ptB t,.string c,.string p,.int .i64 f] w λe w'=>e= .returned (.int .i64 5)/\w'=w:=by
 obtain⟨H,h1,G⟩:=xH (w:=w) c hc;obtain⟨I,h2,k2⟩:=xH (w:=w) p hp
 cases H with
 | false=>
  clear h1 h2 k2 h hc hp;go_enter CU,CV
  go_wp2_with (go_at_call 123;with_reducible refine G.mono ?_;rintro e w' ⟨rfl,C⟩;obtain rfl:=C.symm)
  go_ret;exact Aj
 | true=>
  cases I with
  | true=>exact absurd ⟨h1.1 rfl,h2.1 rfl⟩ h
  | false=>
   clear h1 h2 h hc hp;go_enter CU,CV
   go_wp2_with (first
    | (go_at_call 123;with_reducible refine G.mono ?_;rintro e w' ⟨rfl,C⟩;obtain rfl:=C.symm)
    | (go_at_call 123;with_reducible refine k2.mono ?_;rintro e w' ⟨rfl,C⟩;obtain rfl:=C.symm))
   go_ret;exact Aj
theorem kQ(h:cj c):AH AE 123 #[.string c] w λe w'=>e= .returned (.bool true)/\w'=w:=sY c h
theorem zP(h:TM w t m E)(hc:cj c)(hp:cj p)(ht:f<0\/1099511627776<f\/(∃l,opL (lsE E c)=some l)\/∃l,(lsE E c).getLast? =some l/\f<l.x.un):
  AH AE 67 #[ptB t,.string c,.string p,.int .i64 f] w λe w'=>e= .returned (.int .i64 17)/\w'=w:=by
 have J:=kQ (w:=w) hc;have k2:=kQ (w:=w) hp;have h1:=h.cell;have h2:=h.look c;have G:=l7 h c;clear hc hp;by_cases c1:f<0
 ·clear ht G h;generalize m8 E c=v at h2;go_enter CU,CV
  go_wp2_with (first
    | (go_at_call 123;with_reducible refine J.mono ?_;rintro e w' ⟨rfl,C⟩;obtain rfl:=C.symm)
    | (go_at_call 123;with_reducible refine k2.mono ?_;rintro e w' ⟨rfl,C⟩;obtain rfl:=C.symm))
  go_ret;exact Aj
 ·have P:decide (f<0)=false:=decide_eq_false c1;by_cases c2:1099511627776<f
  ·clear ht G h c1;generalize m8 E c=v at h2;go_enter CU,CV
   go_wp2_with (first
    | (go_at_call 123;with_reducible refine J.mono ?_;rintro e w' ⟨rfl,C⟩;obtain rfl:=C.symm)
    | (go_at_call 123;with_reducible refine k2.mono ?_;rintro e w' ⟨rfl,C⟩;obtain rfl:=C.symm))
   go_ret;exact Aj
  ·have U:decide (1099511627776<f)=false:=decide_eq_false c2
   cases ho:opL (lsE E c)with
   | some l=>
    rw[ho]at G
    change AH _ _ _ _ (λe w'=>e= .returned (ptB l.b)/\w'=w)at G
    clear ht h c1 c2 ho;generalize m8 E c=v at h2;generalize l.b=lb at G;go_enter CU,CV
    go_wp2_with (first
     | (go_at_call 123;with_reducible refine J.mono ?_;rintro e w' ⟨rfl,C⟩;obtain rfl:=C.symm)
     | (go_at_call 123;with_reducible refine k2.mono ?_;rintro e w' ⟨rfl,C⟩;obtain rfl:=C.symm)
     | (go_at_call 124;refine G.mono ?_;rintro e w' ⟨rfl,C⟩;obtain rfl:=C.symm))
    go_ret;exact Aj
   | none=>
    rw[ho]at G ht
    change AH _ _ _ _ (λe w'=>e= .returned (.pointer none)/\w'=w)at G
    obtain⟨l,hl,ab⟩:∃l,(lsE E c).getLast? =some l/\f<l.x.un:=by
     rcases ht with ht | ht | ⟨_,ht⟩ | ht
     ·exact absurd ht c1
     ·exact absurd ht c2
     ·cases ht
     ·exact ht
    unfold lsE at hl
    cases hch:chE E c with
    | none=>rw[hch]at hl;cases hl
    | some ch=>
     rw[hch]at hl;have H:=h.chAt hch;have hl:ch.ls.getLast? =some l:=hl;obtain⟨N,K⟩:∃N,N=ch.ls.length:=⟨_,rfl⟩;have I:=ER.2 H.ne;rw[Fg,<-K]at hl;have V:=H.cell hl;have ac:=(h.ln hch (Bb hl)).un;have hm:(N:Int)<=9223372036854775807:=by have:=H.le;have:=H.cap;unfold maxLen at this;omega
     have hk:((N:Int) - 1).toNat=N - 1:=Aa
     have Y:(0:Int)<N:=Aa
     have Z:(1:Int)<=N:=Aa
     have aa:(N:Int) - 1<N:=Aa
     replace h2:(CJ mpT (.map (some m)) (.string c) false).run AE w= .ok (.slice (some ⟨ch.rb,0,none⟩) N ch.cap) w:=by rw[h2];unfold m8;rw[hch,K];rfl
     clear ht h c1 c2 ho H hl hch I K;generalize ch.rb=rb at *;generalize ch.cap=cap at *;generalize l.b=lb at *;generalize l.x.un=un at *;go_enter CU,CV
     go_wp2_with (first
      | (go_at_call 123;with_reducible refine J.mono ?_;rintro e w' ⟨rfl,C⟩;obtain rfl:=C.symm)
      | (go_at_call 123;with_reducible refine k2.mono ?_;rintro e w' ⟨rfl,C⟩;obtain rfl:=C.symm)
      | (go_at_call 124;refine G.mono ?_;rintro e w' ⟨rfl,C⟩;obtain rfl:=C.symm))
     go_ret;exact Aj
variable{l:List Nm}
theorem l8(h:l.Nodup)(c:Nm):(ol l c).Nodup:=by
 unfold ol;split
 ·exact h
 ·rename_i hc;exact BJ.2 ⟨h,Ag,λa ha b hb=>by simp at hb;subst hb;exact λe=>hc (e▸ha)⟩
theorem dedup:∀l:List Nm,∃C:List Nm,C.Nodup/\∀x,x∈C↔x∈l
 | []=>⟨[],List.nodup_nil,λ_=>Iff.rfl⟩
 | c::l=>by
  obtain⟨C,h1,h2⟩:=dedup l;exact⟨ol C c,l8 h1 c,λx=>by rw[jC,h2,A3];exact or_comm⟩
theorem zQ(R:Tr)(c p:Nm):∃n,bN (λx=>aM R x\/x=c\/x=p) n:=by
 obtain⟨l,h1,h2⟩:=dedup (c::p::(R.flatMap λq=>[q.1,q.2.par]));refine⟨l.length,l,h1,λx=> ?_,rfl⟩;rw[h2];simp only[A3,Br,aM,List.not_mem_nil,or_false];constructor
 ·rintro(h | h | ⟨q,h,C⟩)
  ·exact .inr (.inl h)
  ·exact .inr (.inr h)
  ·exact .inl ⟨q,h,C.imp Eq.symm Eq.symm⟩
 ·rintro(⟨q,h,C⟩ | h | h)
  ·exact .inr (.inr ⟨q,h,C.imp Eq.symm Eq.symm⟩)
  ·exact .inl h
  ·exact .inr (.inl h)
variable{b:Nat}
theorem eZ.len(h:eZ w b l):(Builtin.len_ #[smT] 3 #[.map (some b)]).run AE w= .ok (.int .i64 (l.length:Int)) w:=by
 obtain⟨G,C,h1,_,h2⟩:=h;have h3:G.size=l.length:=by have:=congrArg Ef h2;simpa using this
 simp[Builtin.len_,AO,run_underlying Tryz.underlying150,AX,Go.MapKept.run_getObj_map h1,goInt,h3]
theorem eZ.size(h:eZ w b l):∃(G:Array MapEntry)(C:Nat),w.heap[b]? =some (.map G C)/\G.size=l.length:=by
 obtain⟨G,C,h1,_,h2⟩:=h;refine⟨G,C,h1,?_⟩;have:=congrArg Ef h2;simpa using this
theorem eC{w1:World}{H:Nat}(G:eZ w1 b l)(hl:∀x,x∈l↔uM E x)(hn:bN (λx=>aM (trE E) x\/x=c\/x=p) H):
  ∃(w2 w3:World),(D1 smT (.map (some b)) (.string c) (.bool true)).run AE w1= .ok () w2/\(D1 smT (.map (some b)) (.string p) (.bool true)).run AE w2= .ok () w3/\(Builtin.len_ #[smT] 3 #[.map (some b)]).run AE w3= .ok (.int .i64 (H:Int)) w3/\Upd w1 b w3:=by
 obtain⟨w2,h1,h2,h3⟩:=G.upd c;obtain⟨w3,h4,h5,h6⟩:=h2.upd p;have C:=h5.len;rw[bN.uniq ⟨_,l8 (l8 G.nodup c) p,λx=> ?_,rfl⟩ hn]at C
 ·exact⟨w2,w3,h1,h4,C,h3.trans h6⟩
 rw[jC,jC,hl,fG,or_assoc]
structure TimeOk(E:List Ch)(c:Nm)(f:Int):Prop where
 lo:0<=f
 hi:f<=1099511627776
 op:opL (lsE E c)=none
 la:∀l,(lsE E c).getLast? =some l->l.x.un<=f
theorem om{ch:Ch}(h:TM w t m E)(ht:TimeOk E c f)(C:chE E c=some ch):∃(N rb cap lb:Nat)(un:Int),(CJ mpT (.map (some m)) (.string c) false).run AE w= .ok (.slice (some ⟨rb,0,none⟩) N cap) w/\w.cell? ⟨rb,N - 1,none⟩=some (ptB lb)/\
  w.cell? ⟨lb,3,none⟩=some (.int .i64 un)/\N=(lsE E c).length/\(N:Int)<=9223372036854775807/\((N:Int) - 1).toNat=N - 1/\(0:Int)<N/\(1:Int)<=N/\(N:Int) - 1<N/\decide (f<un)=false:=by
 have H:=h.chAt C;have I:=ER.2 H.ne;have hl:lsE E c=ch.ls:=by unfold lsE;rw[C];rfl
 obtain⟨l,G⟩:∃l,ch.ls[ch.ls.length - 1]? =some l:=⟨_,AU Aa⟩;refine⟨ch.ls.length,ch.rb,ch.cap,l.b,l.x.un,by rw[h.look c];unfold m8;rw[C];rfl,H.cell G,(h.ln C (Bb G)).un,by rw[hl],by have:=H.le;have:=H.cap;unfold maxLen at this;omega,Aa,Aa,Aa,Aa,decide_eq_false ?_⟩;have:=ht.la l (by rw[hl,Fg];exact G);omega
theorem zR{n0:Nat}(h:TM w t m E)(hc:cj c)(hp:cj p)(ht:TimeOk E c f)(hn:bN (λx=>aM (trE E) x\/x=c\/x=p) n0)(J:24<n0):
  AH AE 67 #[ptB t,.string c,.string p,.int .i64 f] w λe w'=>e= .returned (.int .i64 15)/\AG w.heap.size w w':=by
 have k1:=kQ (w:=w) hc;have k2:=kQ (w:=w) hp;have h1:=h.cell;have h2:=h.look c;have I:=l7 h c;have P:=j5 h;have c1:decide (f<0)=false:=decide_eq_false (by have:=ht.lo;omega);have c2:decide (1099511627776<f)=false:=decide_eq_false (by have:=ht.hi;omega);rw[ht.op]at I
 change AH _ _ _ _ (λe w'=>e= .returned (.pointer none)/\w'=w)at I
 have HN:=AF hn;have aa:(24:Int)<(n0:Int):=Aa
 cases hch:chE E c with
 | none=>
  replace h2:(CJ mpT (.map (some m)) (.string c) false).run AE w= .ok (.slice none 0 0) w:=by rw[h2];unfold m8;rw[hch];rfl
  clear hc hp ht hn J h hch;go_enter CU,CV
  go_wp2_with (first
   | (go_at_call 123;with_reducible refine k1.mono ?_;rintro e w' ⟨rfl,C⟩;obtain rfl:=C.symm)
   | (go_at_call 123;with_reducible refine k2.mono ?_;rintro e w' ⟨rfl,C⟩;obtain rfl:=C.symm)
   | (go_at_call 124;refine I.mono ?_;rintro e w' ⟨rfl,C⟩;obtain rfl:=C.symm)
   | (go_at_call 89;refine P.mono ?_;rintro e w1 ⟨b,l,rfl,K,G,hl,hb⟩;obtain⟨w2,w3,V,Y,Z,H⟩:=eC K hl HN.out;have U:=AF (H.below hb G);clear hb hl K G H))
  go_ret;exact⟨rfl,U.out⟩
 | some ch=>
  obtain⟨N,rb,cap,lb,un,am,ab,an,hN,hm,hk,ac,ad,ak,hu⟩:=om h ht hch;clear h2;clear hc hp ht hn J h hch hN;go_enter CU,CV
  go_wp2_with (first
   | (go_at_call 123;with_reducible refine k1.mono ?_;rintro e w' ⟨rfl,C⟩;obtain rfl:=C.symm)
   | (go_at_call 123;with_reducible refine k2.mono ?_;rintro e w' ⟨rfl,C⟩;obtain rfl:=C.symm)
   | (go_at_call 124;refine I.mono ?_;rintro e w' ⟨rfl,C⟩;obtain rfl:=C.symm)
   | (go_at_call 89;refine P.mono ?_;rintro e w1 ⟨b,l,rfl,K,G,hl,hb⟩;obtain⟨w2,w3,V,Y,Z,H⟩:=eC K hl HN.out;have U:=AF (H.below hb G);clear hb hl K G H))
  go_ret;exact⟨rfl,U.out⟩
theorem zS{U:Nat}(h:TM w t m E)(hc:cj c)(hp:cj p)(ht:TimeOk E c f)(hn:bN (λx=>aM (trE E) x\/x=c\/x=p) U)(K:U<=24)(G:64<=(lsE E c).length):
  AH AE 67 #[ptB t,.string c,.string p,.int .i64 f] w λe w'=>e= .returned (.int .i64 15)/\AG w.heap.size w w':=by
 have k1:=kQ (w:=w) hc;have k2:=kQ (w:=w) hp;have h1:=h.cell;have h2:=h.look c;have H:=l7 h c;have P:=j5 h;have c1:decide (f<0)=false:=decide_eq_false (by have:=ht.lo;omega);have c2:decide (1099511627776<f)=false:=decide_eq_false (by have:=ht.hi;omega);rw[ht.op]at H
 change AH _ _ _ _ (λe w'=>e= .returned (.pointer none)/\w'=w)at H
 have HN:=AF hn;have V:decide ((24:Int)<(U:Int))=false:=decide_eq_false Aa
 cases hch:chE E c with
 | none=>unfold lsE at G;rw[hch]at G;exact absurd G Ag
 | some ch=>
  obtain⟨N,rb,cap,lb,un,am,ab,aq,hN,hm,hk,ac,ad,ak,hu⟩:=om h ht hch;clear h2;have aa:(64:Int)<=N:=Aa
  clear hc hp ht hn K h hch hN G;go_enter CU,CV
  go_wp2_with (first
   | (go_at_call 123;with_reducible refine k1.mono ?_;rintro e w' ⟨rfl,C⟩;obtain rfl:=C.symm)
   | (go_at_call 123;with_reducible refine k2.mono ?_;rintro e w' ⟨rfl,C⟩;obtain rfl:=C.symm)
   | (go_at_call 124;refine H.mono ?_;rintro e w' ⟨rfl,C⟩;obtain rfl:=C.symm)
   | (go_at_call 89;refine P.mono ?_;rintro e w1 ⟨b,l,rfl,Y,I,hl,hb⟩;obtain⟨w2,w3,an,ao,ap,J⟩:=eC Y hl HN.out;have Z:=AF (J.below hb I);clear hb hl Y I J))
  go_ret;exact⟨rfl,Z.out⟩
open Classical in
theorem q_att_cyc {n0:Nat} (h:TM w t m E) (hE:TOk (trE E)) (hc:cj c) (hp:cj p) (ht:TimeOk E c f) (hn:bN (fun x=>aM (trE E) x∨x=c∨x=p) n0) (h24:n0≤24) (h64:(lsE E c).length<64) (hy:Cyc (trE E) c p f):
  AH AE 67 #[ptB t,.string c,.string p,.int .i64 f] w fun e w'=>e= .returned (.int .i64 19)∧AG w.heap.size w w':=by
 have k1:=kQ (w:=w) hc;have k2:=kQ (w:=w) hp;have h1:=h.cell;have h2:=h.look c;have hop:=l7 h c;have hkn:=j5 h;have c1:decide (f<0)=false:=decide_eq_false (by have:=ht.lo;omega);have c2:decide (1099511627776<f)=false:=decide_eq_false (by have:=ht.hi;omega);rw[ht.op]at hop
 change AH _ _ _ _ (fun e w'=>e= .returned (.pointer none)∧w'=w)at hop
 have HN:=AF hn;have h24':decide ((24:Int)<(n0:Int))=false:=decide_eq_false (by omega);have HT:=AF h;have HE:=AF hE;have HY:=AF (decide_eq_true hy)
 cases hch:chE E c with
 | none=>
  replace h2:(CJ mpT (.map (some m)) (.string c) false).run AE w= .ok (.slice none 0 0) w:=by rw[h2];unfold m8;rw[hch];rfl
  clear hc hp ht hn h24 h hch h64 hE hy;go_enter CU,CV
  go_wp2_with (first
   | (go_at_call 123;with_reducible refine k1.mono ?_;rintro e w' ⟨rfl,hw'⟩;obtain rfl:=hw'.symm)
   | (go_at_call 123;with_reducible refine k2.mono ?_;rintro e w' ⟨rfl,hw'⟩;obtain rfl:=hw'.symm)
   | (go_at_call 124;refine hop.mono ?_;rintro e w' ⟨rfl,hw'⟩;obtain rfl:=hw'.symm)
   | (go_at_call 89;refine hkn.mono ?_;rintro e w1 ⟨b,l,rfl,hS,hbl,hl,hb⟩;obtain⟨w2,w3,hm1,hm2,hm3,hu3⟩:=eC hS hl HN.out;have HB:=AF (hu3.below hb hbl);have hcy:=pw (HT.out.below HB.out) HE.out c p f;rw[HY.out]at hcy;clear hb hl hS hbl hu3)
   | (go_at_call 125;refine hcy.mono ?_;rintro e w4 ⟨rfl,hb4⟩;have HB4:=AF hb4;clear hb4))
  go_ret;exact⟨rfl,HB.out.trans (HB4.out.mono HB.out.size)⟩
 | some ch=>
  obtain⟨N,rb,cap,lb,un,hl2,hcl,hun,hN,hm,hk,hk0,hk1,hk2,hu⟩:=om h ht hch;clear h2;have hN2:decide ((64:Int)≤N)=false:=decide_eq_false (by omega);clear hc hp ht hn h24 h hch h64 hE hy hN;go_enter CU,CV
  go_wp2_with (first
   | (go_at_call 123;with_reducible refine k1.mono ?_;rintro e w' ⟨rfl,hw'⟩;obtain rfl:=hw'.symm)
   | (go_at_call 123;with_reducible refine k2.mono ?_;rintro e w' ⟨rfl,hw'⟩;obtain rfl:=hw'.symm)
   | (go_at_call 124;refine hop.mono ?_;rintro e w' ⟨rfl,hw'⟩;obtain rfl:=hw'.symm)
   | (go_at_call 89;refine hkn.mono ?_;rintro e w1 ⟨b,l,rfl,hS,hbl,hl,hb⟩;obtain⟨w2,w3,hm1,hm2,hm3,hu3⟩:=eC hS hl HN.out;have HB:=AF (hu3.below hb hbl);have hcy:=pw (HT.out.below HB.out) HE.out c p f;rw[HY.out]at hcy;clear hb hl hS hbl hu3)
   | (go_at_call 125;refine hcy.mono ?_;rintro e w4 ⟨rfl,hb4⟩;have HB4:=AF hb4;clear hb4))
  go_ret;exact⟨rfl,HB.out.trans (HB4.out.mono HB.out.size)⟩
end
def dl(c p:Nm)(f:Int)(g:Nat):Array Value:=#[.string c,.string p,.int .i64 f,.int .i64 (-1),.bool false,.bool false,.slice none 0 0,.slice none 0 0,.bool false,.slice none 0 0,.slice none 0 0,.bool false,.slice none 0 0,.slice none 0 0,.bool false,.slice none 0 0,.slice none 0 0,.bool false,.slice none 0 0,.slice none 0 0,.bool false,.slice none 0 0,.slice none 0 0,.bool false,.slice none 0 0,.slice none 0 0,ptB g]
def All2(w:World):List Vp->List Value->Prop
 | [],[]=>True
 | q::qs,v::vs=>q.p w v/\All2 w qs vs
 | _,_=>False
variable{w:World}
theorem All2.get:∀ {qs:List Vp} {vs:List Value},All2 w qs vs->vs.length=qs.length/\∀(j:Nat)(q:Vp),qs[j]? =some q->∃u,vs[j]? =some u/\q.p w u
 | [],[],_=>⟨rfl,λj q h=>Aq⟩
 | q::qs,v::vs,h=>by
  obtain⟨h1,h2⟩:=h.2.get;refine⟨by simp[h1],λj G C=> ?_⟩
  cases j with
  | zero=>simp at C;subst C;exact⟨v,rfl,h.1⟩
  | succ j=>simpa using h2 j G At
 | [],_::_,h=>h.elim
 | _::_,[],h=>h.elim
variable{vs:List Value}
theorem All2.cells{qs:List Vp}(h:All2 w qs vs):lZ w vs.toArray qs:=⟨by simpa using h.get.1,λj q C=>by simpa using h.get.2 j q C⟩
theorem na:(Vp.dig (nl 0) 0).p w (.slice none 0 0):=by
 rw[bj];exact⟨none,0,rfl,AK _,⟨Ag,λh=>absurd h Ag⟩⟩
variable{v:Value}
theorem hJ(h:eO v):(Vp.val v).p w v:=⟨rfl,h⟩
variable{c:Nm}
theorem jD{p:Nm}{f:Int}{b g:Nat}{sl:Value}:lZ w (dl c p f g) (lnQ c ⟨eu p f,b,g,sl⟩):=
 All2.cells (vs:=(dl c p f g).toList) ⟨hJ jj,hJ jj,hJ cw,hJ cw,hJ bM,hJ bM,na,na,hJ bM,na,na,hJ bM,na,na,hJ bM,na,na,hJ bM,na,na,hJ bM,na,na,hJ bM,na,na,hJ qg,trivial⟩
variable{O:List Nat}
theorem fp_add{A B N Q:List Nat}{g2 n:Nat}(h:(A++(O++B)++Q).Nodup)(H:∀x∈A++(O++B)++Q,x<n)(G:g2∈O\/n<=g2)(J:(g2::N).Nodup)(hn:∀x∈N,n<=x):(A++(g2::(B++N))++Q).Nodup:=by
 have hp:(A++(g2::(B++N))++Q).Perm ((A++B++Q)++(g2::N)):=List.perm_iff_count.2 (λx=>by simp only[List.count_append,List.count_cons];omega);have C:(A++(O++B)++Q).Perm ((A++B++Q)++O):=List.perm_iff_count.2 (λx=>by simp only[List.count_append];omega);rw[hp.nodup_iff];rw[C.nodup_iff]at h;obtain⟨h1,h2,h3⟩:=BJ.1 h;refine BJ.2 ⟨h1,J,λa ha b hb e=> ?_⟩;subst e;have I:a<n:=H a ((C.mem_iff).2 (AJ.2 (.inl ha)));rcases A3.1 hb with rfl | hb
 ·rcases G with G | G
  ·exact h3 a ha a G rfl
  ·omega
 ·have:=hn a hb;omega
def AtC(E:List Ch)(c:Nm)(E1 E2:List Ch)(O:List Nat)(ls:List Ln):Prop:=(O=[]/\ls=[]/\E=E1/\E2=[]/\chE E c=none)\/∃rb cap,O=[rb]/\E=E1++⟨c,rb,cap,ls⟩::E2
variable{E G:List Ch}{ls:List Ln}
theorem AtC.fp{C:List Ch}(h:AtC E c C G O ls)(t m:Nat):fpT t m E=(t::m::C.flatMap Ch.fp)++(O++ls.flatMap Ln.fp)++G.flatMap Ch.fp:=by
 rcases h with⟨rfl,rfl,rfl,rfl,_⟩ | ⟨rb,cap,rfl,rfl⟩
 ·simp[fpT]
 ·simp[fpT,Ch.fp,Df,Cq,DG]
theorem att_fp(t m:Nat)(c:Nm)(G H:List Ch)(g2 C:Nat)(ls:List Ln)(l:Ln):fpT t m (G++⟨c,g2,C,ls++ [l]⟩::H)=(t::m::G.flatMap Ch.fp)++(g2::(ls.flatMap Ln.fp++l.fp))++H.flatMap Ch.fp:=by
 simp[fpT,Ch.fp,Df,Cq,DG]
theorem AtC.put{H:List Ch}(h:AtC E c G H O ls)(hn:(E.map (·.c)).Nodup)(g2 C:Nat)(l:Ln):
  qT (E.map λch=>(ch.c,ch.row)) c (.slice (some ⟨g2,0,none⟩) (ls.length+1) C)=(G++⟨c,g2,C,ls++ [l]⟩::H).map λch=>(ch.c,ch.row):=by
 have e:(⟨c,g2,C,ls++ [l]⟩:Ch).row= .slice (some ⟨g2,0,none⟩) (ls.length+1) C:=by simp[Ch.row]
 rcases h with⟨rfl,rfl,rfl,rfl,hc⟩ | ⟨rb,cap,rfl,rfl⟩
 ·have J:c∉(E.map λch=>(ch.c,ch.row)).map (·.1):=λI=>by
   rw[CG]at I;obtain⟨ch,h1,h2⟩:=Bi.1 I;exact xD hc h1 h2
  rw[qT,if_neg J,Cu,Bu,e];rfl
 ·have I:c∈((G++(⟨c,rb,cap,ls⟩:Ch)::H).map λch=>(ch.c,ch.row)).map (·.1):=Ag
  rw[qT,if_pos I,CG,Cu,Bu,Cu,Bu,e];rw[Cu,Bu,BJ,Bv]at hn;obtain⟨_,⟨h2,_⟩,h3⟩:=hn;have K:∀ch∈G,ch.c≠c:=λch hc e=>h3 _ (Bi.2 ⟨ch,hc,rfl⟩) c (Bj ..) e
  have k2:∀ch∈H,ch.c≠c:=λch hc e=>h2 (Bi.2 ⟨ch,hc,e⟩)
  congr 1
  ·exact Ea (λch hc=>by simp[K ch hc])
  ·congr 1
   ·simp
   ·exact Ea (λch hc=>by simp[k2 ch hc])
theorem asz(w:World)(o:Obj):(w.alloc o).heap.size=w.heap.size+1:=Array.size_push ..
variable{t m:Nat}{E1 E2:List Ch}
set_option maxHeartbeats 2000000 in
theorem aa1{K G:World}{p:Nm}{f:Int}{g:Nat}{sl:Value}(V:TM K t m E)(hA:AtC E c E1 E2 O ls)(dr:ls.length<64)
  (hg:K.heap.size<=g)(a5:TrkS trT G g sl [])(ak:∀b,sl.ownBlock=some b->K.heap.size<=b/\bF G b)(aa:AG K.heap.size K G)(hv:∀k,v.ownBlock=some k->k∈O)(b9:aY K lpT 1 v ls.length (ls.map λl=>ptB l.b)):
  ∃(g2 I:Nat)(w8 w9:World),(Ca #[158,158] 158 #[v,.slice (some ⟨G.heap.size+1,0,none⟩) 1 1]).run AE ((G.alloc (.cells (dl c p f g) lkT)).alloc (.cells #[ptB G.heap.size] lpT))= .ok (.slice (some ⟨g2,0,none⟩) (ls.length+1) I) w8/\w8.cell? ⟨t,0,none⟩=some (.map (some m))/\
   (D1 mpT (.map (some m)) (.string c) (.slice (some ⟨g2,0,none⟩) (ls.length+1) I)).run AE w8= .ok () w9/\w9.cell? ⟨t,0,none⟩=some (.map (some m))/\TPost K t m E w9 (E1++⟨c,g2,I,ls++ [⟨eu p f,G.heap.size,g,sl⟩]⟩::E2):=by
 have ab:AG G.heap.size G ((G.alloc (.cells (dl c p f g) lkT)).alloc (.cells #[ptB G.heap.size] lpT)):=((AL _ _).alloc (AK _) _).alloc (by rw[asz];omega) _;have d0:((G.alloc (.cells (dl c p f g) lkT)).alloc (.cells #[ptB G.heap.size] lpT)).heap.size=G.heap.size+1+1:=by rw[asz,asz]
 have c6:((G.alloc (.cells (dl c p f g) lkT)).alloc (.cells #[ptB G.heap.size] lpT)).heap[G.heap.size]? =some (.cells (dl c p f g) lkT (0,0)):=by
  rw[heap_alloc_old _ _ (by rw[asz];omega),BE]
 have c7:((G.alloc (.cells (dl c p f g) lkT)).alloc (.cells #[ptB G.heap.size] lpT)).heap[G.heap.size+1]? =some (.cells #[ptB G.heap.size] lpT (0,0)):=by
  have:=BE (G.alloc (.cells (dl c p f g) lkT)) (.cells #[ptB G.heap.size] lpT);rwa [asz]at this
 generalize d4:(G.alloc (.cells (dl c p f g) lkT)).alloc (.cells #[ptB G.heap.size] lpT)=w7 at *;have c8:∀k,v.ownBlock=some k->k<K.heap.size:=λk C=>by
  obtain⟨cs,T,h1,_⟩:=b9.2 k C;exact(A8.1 h1).1
 have bq:∀k,k<K.heap.size->w7.heap[k]? =K.heap[k]? :=λk C=>by rw[ab.block k (Bt C aa.size),aa.block k C]
 have ca:aY w7 lpT 1 v ls.length (ls.map λl=>ptB l.b):=by
  obtain⟨⟨h1,h2⟩,h3⟩:=b9;refine⟨⟨h1,h2.imp id ?_⟩,λk C=> ?_⟩
  ·rintro⟨k,cap,ad,e,hb,hg,hr⟩;exact⟨k,cap,ad,e,hb,by rw[bq k (A8.1 hg).1];exact hg,hr⟩
  ·obtain⟨cs,T,k1,k2⟩:=h3 k C;exact⟨cs,T,by rw[bq k (A8.1 k1).1];exact k1,k2⟩
 obtain⟨i0,hi,c9,ax,da⟩:=info_parts (P:=AE) (e:=lpT) (z:=.pointer none) (size:=1) (bytes:=8) Ab;obtain⟨v',w8,bz,J,d3,av,a3,bt⟩:=ux (p:=AE) (w:=w7) (t:=158) (ty:=158) (e:=lpT) (i:=i0) (z:=.pointer none) Tryz.underlying158 hi c9 (by rw[ax];rfl) Aa (λu hu n e=>by
  have:u= .pointer none:=by simpa [Value.cells]using hu
  subst this;cases e) (v:=v) (n:=ls.length) (xs:=ls.map λl=>ptB l.b) (by rw[ax];exact ca) (a:=⟨G.heap.size+1,0,none⟩) (m:=1) (c:=1) (news:=[ptB G.heap.size]) (by rw[ax];rfl)
  (World.news_of_block c7) (λu hu=>by simp at hu;subst hu;rfl) (λu hu n e=>by simp at hu;subst hu;cases e) Aa (by rw[da];omega) Aa
 rw[ax]at a3;have b6:=V.lt;have H:=V.nd;have be:=hA.fp t m;rw[be]at H b6;have cd:=aa.size;have U:∀k∈O,k∈fpT t m E:=λk C=>by rw[be];simp[C]
 have cc:∀k,v.ownBlock=some k->k<K.heap.size:=λk C=>V.lt k (U k (hv k C))
 have b8:m<K.heap.size:=V.lt m (by simp[fpT]);have au:t<K.heap.size:=V.lt t (by simp[fpT]);have b7:m∉O:=λhm=>by
  rw[BJ,BJ]at H;exact H.1.2.2 m Ag m (by simp[hm]) rfl
 have bp:t∉O:=λhm=>by
  rw[BJ,BJ]at H;exact H.1.2.2 t Ag t (by simp[hm]) rfl
 have cb:t≠m:=λe=>by
  subst e;have:=V.nd;simp[fpT]at this
 have k8:∀k,k<K.heap.size->k∉O->w8.heap[k]? =K.heap[k]? :=λk C hO=>by
  rw[J.block k Aa (λe=>hO (hv k e.symm)),ab.block k Aa,aa.block k C]
 have db:∀k,K.heap.size<=k->k<w7.heap.size->w8.heap[k]? =w7.heap[k]? :=λk C cz=>J.block k cz (λe=>by have:=cc k e.symm;omega)
 have d1:w7.heap.size<=w8.heap.size:=J.size;obtain⟨ea,⟨_,h0⟩ | ⟨g2,I,ad,rfl,_,b2,cp,cq,dT,cr⟩⟩:=a3
 ·omega
 replace av:v.ownBlock=some g2\/w7.heap.size<=g2:=av g2 rfl
 have cm:dt w8 m (E.map λch=>(ch.c,ch.row)):=V.mp.other (k8 m b8 b7);obtain⟨w9,c5,a4,Z⟩:=dt.update (P:=AE) (t:=mpT) cm EQ Ab c (.slice (some ⟨g2,0,none⟩) (ls.length+1) I);rw[hA.put V.keys g2 I ⟨eu p f,G.heap.size,g,sl⟩]at a4;have a0:g2≠m:=λe=>by
  rcases av with h | h
  ·exact b7 (e▸hv g2 h)
  ·omega
 have k9:∀k,k<K.heap.size->k≠m->k∉O->w9.heap[k]? =K.heap[k]? :=λk C hm hO=>by rw[Z.block k hm];exact k8 k C hO
 have d2:w9.heap.size=w8.heap.size:=Z.size;have hX:Chg K w9 (λk=>k=m\/k∈O):=⟨Aa,λk C hn=>k9 k C (λe=>hn (.inl e)) (λe=>hn (.inr e)),λk C=>V.own k (by
  rcases C with rfl | C
  ·simp[fpT]
  ·exact U k C)⟩
 have an:Chg G w9 (λk=>k=m\/k∈O):=⟨by have:=ab.size;omega,λk C hn=>by
  rw[Z.block k (λe=>hn (.inl e)),J.block k Aa (λe=>hn (.inr (hv k e.symm)))];exact ab.block k C,λk C=>by
  have aq:k∈fpT t m E:=by
   rcases C with rfl | C
   ·simp[fpT]
   ·exact U k C
  exact(V.own k aq).blk (aa.block k (V.lt k aq)) cd⟩
 have bb:w9.heap[g2]? =some (.cells ad lpT (0,0)):=by rw[Z.block g2 a0];exact b2
 have a7:∀(j:Nat)(l:Ln),(ls++ [⟨eu p f,G.heap.size,g,sl⟩])[j]? =some l->ad[j]? =some (ptB l.b):=λj l hj=>by
  have h1:(((ls++ [(⟨eu p f,G.heap.size,g,sl⟩:Ln)]).map λl=>ptB l.b)[j]?)=some (ptB l.b):=by rw[BB,hj];rfl
  rw[Cu,Bu,BZ,<-cr,BP]at h1;split at h1
  ·simpa using h1
  ·cases h1
 have dq:g<G.heap.size:=(A8.1 a5.blk).1;have a6:∀k,K.heap.size<=k->¬(k=m\/k∈O):=λk C h=>by
  rcases h with rfl | h
  ·omega
  ·have:=V.lt k (U k h);omega
 have am:TrkS trT w9 g sl []:=a5.chg an (a6 g hg) (λb hb=>a6 b (ak b hb).1);have a1:w9.heap[G.heap.size]? =some (.cells (dl c p f g) lkT (0,0)):=by
  rw[Z.block _ Aa,db _ Aa Aa];exact c6
 have cl:LnAt w9 c ⟨eu p f,G.heap.size,g,sl⟩:=⟨⟨_,a1,jD⟩,am⟩;have ap:g2∈O\/G.heap.size+1+1<=g2:=av.imp (hv g2) (λh=>Aa);have ar:∀b,sl.ownBlock=some b->b<G.heap.size:=λb hb=>(ak b hb).2.1
 have hN:(g2::(⟨eu p f,G.heap.size,g,sl⟩:Ln).fp).Nodup:=by
  refine Bv.2 ⟨λhm=> ?_,Bv.2 ⟨λhm=> ?_,Bv.2 ⟨λhm=> ?_,by cases sl.ownBlock<;>simp⟩⟩⟩
  ·simp only[Ln.fp,A3,D2]at hm;rcases ap with h | h
   ·have:=V.lt _ (U _ h);rcases hm with h2 | h2 | h2
    ·omega
    ·omega
    ·have:=(ak _ h2).1;omega
   ·rcases hm with h2 | h2 | h2
    ·omega
    ·omega
    ·have:=ar _ h2;omega
  ·simp only[A3,D2]at hm;rcases hm with h2 | h2
   ·omega
   ·have:=ar _ h2;omega
  ·simp only[D2]at hm;exact a5.ne _ hm rfl
 have ay:∀x∈(⟨eu p f,G.heap.size,g,sl⟩:Ln).fp,K.heap.size<=x:=λx hx=>by
  simp only[Ln.fp,A3,D2]at hx;rcases hx with rfl | rfl | hx
  ·omega
  ·exact hg
  ·exact(ak x hx).1
 have bi:∀x∈(⟨eu p f,G.heap.size,g,sl⟩:Ln).fp,bF w9 x:=λx hx=>by
  simp only[Ln.fp,A3,D2]at hx;rcases hx with rfl | rfl | hx
  ·refine .mk' a1 (λk n C=> ?_);obtain⟨q,hq⟩:∃q,(lnQ c (⟨eu p f,G.heap.size,g,sl⟩:Ln))[k]? =some q:=⟨_,AU (by
    have:=(jD (w:=w9) (c:=c) (p:=p) (f:=f) (b:=G.heap.size) (g:=g) (sl:=sl)).1;rw[<-this];exact(A8.1 C).1)⟩
   obtain⟨u,h1,h2⟩:=(jD (w:=w9) (c:=c) (p:=p) (f:=f) (b:=G.heap.size) (g:=g) (sl:=sl)).2 k q hq;rw[C]at h1;injection h1 with h1;subst h1;exact(q.fl _ _ h2).2.2 n rfl
  ·refine .mk' am.blk (λk n C=> ?_)
   cases k with
   | zero=>
    simp at C;subst C;exact((Vp.row stT 0 (bx [])).fl w9 _ am.row).2.2 n rfl
   | succ k=>simp at C
  ·exact(ak x hx).2.blk (an.blk x (ar x hx) (a6 x (ak x hx).1)) an.size
 have ds:∀k∈fpT t m E,(k=m\/k∈O)->k=m\/k∈O:=λ_ _ h=>h
 have b0:∀ch∈E1++E2,ch∈E/\∀k∈ch.fp,¬(k=m\/k∈O):=λch hc=>by
  have cx:ch∈E:=by
   rcases hA with⟨_,_,rfl,rfl,_⟩ | ⟨rb,cap,_,rfl⟩
   ·simpa using hc
   ·rcases AJ.1 hc with h | h
    ·exact AJ.2 (.inl h)
    ·exact AJ.2 (.inr (Bg _ h))
  refine⟨cx,λk C Y=> ?_⟩;rw[BJ,BJ]at H;rcases AJ.1 hc with h | h
  ·have b3:k∈E1.flatMap Ch.fp:=Br.2 ⟨ch,h,C⟩;rcases Y with rfl | Y
   ·have:=H.1.1;simp only[Bv,A3]at this;exact this.2.1 b3
   ·exact H.1.2.2 k (Bg _ (Bg _ b3)) k (AJ.2 (.inl Y)) rfl
  ·have b5:k∈E2.flatMap Ch.fp:=Br.2 ⟨ch,h,C⟩;rcases Y with rfl | Y
   ·exact H.2.2 k Ag k b5 rfl
   ·exact H.2.2 k (by simp[Y]) k b5 rfl
 have c4:∀l∈ls,LnAt K c l/\∀k∈l.fp,¬(k=m\/k∈O):=λl hl=>by
  refine⟨?_,λk C Y=> ?_⟩
  ·rcases hA with⟨_,rfl,_⟩ | ⟨rb,cap,_,rfl⟩
   ·cases hl
   ·exact V.lns ⟨c,rb,cap,ls⟩ (AJ.2 (.inr (Bj ..))) l hl
  ·have b4:k∈ls.flatMap Ln.fp:=Br.2 ⟨l,hl,C⟩;rw[BJ,BJ]at H;rcases Y with rfl | Y
   ·exact H.1.2.2 k Ag k (AJ.2 (.inr b4)) rfl
   ·have:=H.1.2.1;rw[BJ]at this;exact this.2.2 k Y k b4 rfl
 have a9:bF w9 g2:=(bt g2 rfl).x.blk (Z.block g2 a0) Aa;have ao:∀x,x∈(t::m::E1.flatMap Ch.fp)\/x∈ls.flatMap Ln.fp\/x∈E2.flatMap Ch.fp->x∈fpT t m E/\x∉O:=λx hx=>by
  refine⟨by rw[be];simp only[AJ];rcases hx with h | h | h<;>simp[h],λhO=> ?_⟩;rw[BJ,BJ]at H;rcases hx with h | h | h
  ·exact H.1.2.2 x h x (AJ.2 (.inl hO)) rfl
  ·have:=H.1.2.1;rw[BJ]at this;exact this.2.2 x hO x h rfl
  ·exact H.2.2 x (AJ.2 (.inr (AJ.2 (.inl hO)))) x h rfl
 have a2:∀x∈fpT t m (E1++⟨c,g2,I,ls++ [⟨eu p f,G.heap.size,g,sl⟩]⟩::E2),(x∈fpT t m E/\x∉O)\/x=g2\/x∈(⟨eu p f,G.heap.size,g,sl⟩:Ln).fp:=λx hx=>by
  rw[att_fp]at hx;simp only[AJ,A3]at hx;rcases hx with(h | h | h | h) | h
  ·exact .inl (ao x (.inl Az))
  ·exact .inr (.inl h)
  ·exact .inl (ao x (.inr (.inl h)))
  ·exact .inr (.inr h)
  ·exact .inl (ao x (.inr (.inr h)))
 have ac:∀ch∈E1++(⟨c,g2,I,ls++ [⟨eu p f,G.heap.size,g,sl⟩]⟩:Ch)::E2,ch∈E1++E2\/ch=⟨c,g2,I,ls++ [⟨eu p f,G.heap.size,g,sl⟩]⟩:=λch hc=>by
  rcases AJ.1 hc with h | h
  ·exact .inl (AJ.2 (.inl h))
  ·rcases A3.1 h with h | h
   ·exact .inr h
   ·exact .inl (AJ.2 (.inr h))
 have cu:w9.cell? ⟨t,0,none⟩=some (.map (some m)):=by rw[BM (w:=K) (k9 t au cb bp)];exact V.cell
 have b1:w8.cell? ⟨t,0,none⟩=some (.map (some m)):=by rw[BM (w:=K) (k8 t au bp)];exact V.cell
 refine⟨g2,I,w8,w9,bz,b1,c5,cu,⟨⟨?_,a4,λch hc=> ?_,λch hc l hl=> ?_,?_,λk C=> ?_⟩,⟨?_,?_,?_,?_,λk C hn=> ?_⟩,λk C=> ?_⟩⟩
 ·rw[k9 t au cb bp];exact V.tr
 ·rcases ac ch hc with h | rfl
  ·obtain⟨h1,h2⟩:=b0 ch h;exact(V.rows ch h1).chg hX (h2 _ (Bj ..))
  ·exact⟨⟨ad,bb,by show ad.size=I;omega,a7⟩,by simpa using cp,cq,by simp⟩
 ·rcases ac ch hc with h | rfl
  ·obtain⟨h1,h2⟩:=b0 ch h;exact(V.lns ch h1 l hl).chg hX (λk C=>h2 k (Bg _ (Br.2 ⟨l,hl,C⟩)))
  ·rcases AJ.1 hl with hl | hl
   ·obtain⟨h1,h2⟩:=c4 l hl;exact h1.chg hX h2
   ·simp only[List.mem_singleton]at hl;subst hl;exact cl
 ·rw[att_fp];exact fp_add H b6 (ap.imp id (λh=>Aa)) hN ay
 ·rcases a2 k C with⟨h1,h2⟩ | rfl | h1
  ·by_cases aq:k=m
   ·subst aq;exact a4.own
   ·exact(V.own k h1).blk (k9 k (V.lt k h1) aq h2) hX.size
  ·exact a9
  ·exact bi k h1
 ·exact Z.os.trans (J.os.trans (ab.os.trans aa.os))
 ·exact Z.tape.trans (J.tape.trans (ab.tape.trans aa.tape))
 ·exact Z.output.trans (J.output.trans (ab.output.trans aa.output))
 ·exact hX.size
 ·exact k9 k C (λe=>hn (e▸(by simp[fpT]))) (λh=>hn (U k h))
 ·rcases a2 k C with⟨h1,_⟩ | rfl | h1
  ·exact .inl h1
  ·rcases ap with h | h
   ·exact .inl (U _ h)
   ·exact .inr Aa
  ·exact .inr (ay k h1)
section
variable {w:World} {t m:Nat} {E:List Ch} {c p:Nm} {f:Int}
theorem zT(w:World):(Op.equal mpT (.map (some m)) (.map none)).run AE w= .ok false w:=by
 unfold Op.equal Op.maxDepth Op.equalIn;rw[AO,run_underlying EQ];rfl
theorem re(w:World):(binOp .eql mpT (.map (some m)) (.map none)).run AE w= .ok (.bool false) w:=by
 simp[binOp,AO,zT,AX]
theorem xI{P:A0}{ops:Array Oper}{o:Oper}{a:Act}{w w':World}{v':Value}{K:Act->World->Prop}{Q:Exit->Act->World->Prop}{X:Prop}{s x:AZ}{t:TypeId}(C:o.guard=none)
  (G:o.op= .call {callee:=.builtin .append,args:=#[s,x],argTypes:=#[t,t]}){y:Value}(hs:a.eval s=v)(I:a.eval x=y)(hr:(Ca #[t,t] o.type #[v,y]).run P w= .ok v' w')(h:K (a.put o.dst v') w'):
  if A7 o (yielded ops a.tmps)=true then Bn P o a w K Q else X:=by
 have H:A7 o (yielded ops a.tmps)=true:=by simp[A7,C]
 rw[if_pos H];unfold Bn execOp;simp only[G,resolve,invoke,builtin,AO,BC,Da,C1,Bu,BZ,hs,I,hr];exact h
def REq(R R':Tr):Prop:=∀c,lks R c=lks R' c
theorem lks_none{E:List Ch}{c:Nm}(h:∀ch∈E,ch.c≠c):lks (trE E) c=[]:=by
 refine List.eq_nil_iff_forall_not_mem.2 (λx C=> ?_);obtain⟨ch,h1,l,_,e⟩:=cG.1 (bI.1 C);exact h ch h1 (congrArg (·.1) e).symm
theorem aa2{H:List Ch}(P:AtC E c H G O ls)(hn:(E.map (·.c)).Nodup)(g2 C b g:Nat)(sl:Value):REq (trE (H++⟨c,g2,C,ls++ [⟨eu p f,b,g,sl⟩]⟩::G)) (fx (trE E) c p f):=by
 intro y;have J:trE (H++(⟨c,g2,C,ls++ [⟨eu p f,b,g,sl⟩]⟩:Ch)::G)=trE H++((ls++ [(⟨eu p f,b,g,sl⟩:Ln)]).map (λl=>(c,l.x))++trE G):=by simp[trE,Df,Cq]
 rw[J,gt,gt,uO,iQ];rcases P with⟨rfl,rfl,rfl,rfl,hc⟩ | ⟨rb,cap,rfl,rfl⟩
 ·have I:lks (trE ([]:List Ch)) y=[]:=rfl;rw[I,Ds];by_cases h:c=y
  ·subst h;rw[if_pos rfl,if_pos rfl];rfl
  ·rw[if_neg h,if_neg (Ne.symm h),Ds]
 ·have I:trE (H++(⟨c,rb,cap,ls⟩:Ch)::G)=trE H++(ls.map (λl=>(c,l.x))++trE G):=by simp[trE,Df,Cq]
  rw[I,gt,gt,uO];by_cases h:c=y
  ·subst h;rw[Cu,Bu,BJ,Bv]at hn;have K:lks (trE G) c=[]:=lks_none (λch hc e=>hn.2.1.1 (Bi.2 ⟨ch,hc,e⟩));rw[if_pos rfl,if_pos rfl,if_pos rfl,K,Cu];simp
  ·rw[if_neg h,if_neg h,if_neg (Ne.symm h)]
theorem TM.drew(h:TM w t m E):TM w.drew t m E:=h.below (AL _ _).drew
theorem TPost.pre{H I:World}{E':List Ch}(hb:AG w.heap.size w H)(K:TM w t m E)(C:TPost H t m E I E'):TPost w t m E I E':=
 ⟨C.tm,⟨C.kp.os.trans hb.os,C.kp.tape.trans hb.tape,C.kp.output.trans hb.output,AI hb.size C.kp.size,λk G hn=>(C.kp.block k (Bt G hb.size) hn).trans (hb.block k G)⟩,λg J=>(C.fp g J).imp id (λh=>AI hb.size h)⟩
theorem TM.ownRow{ch:Ch}(h:TM w t m E)(hc:chE E c=some ch):aY w lpT 1 ch.row ch.ls.length (ch.ls.map λl=>ptB l.b):=by
 obtain⟨⟨cs,h1,h2,h3⟩,h4,h5,_⟩:=h.chAt hc;refine⟨⟨Ag,.inr ⟨ch.rb,ch.cap,cs,rfl,Nat.zero_le _,h1,h4,h5,Aa,?_⟩⟩,λk C=> ?_⟩
 ·apply List.ext_getElem?;intro j;rw[BP,BB,Nat.mul_one];split
  ·rename_i G;obtain⟨l,hl⟩:∃l,ch.ls[j]? =some l:=⟨_,AU G⟩;rw[hl,Array.getElem?_toList,h3 j l hl];rfl
  ·rename_i G;rw[List.getElem?_eq_none Aa];rfl
 ·have C:ch.rb=k:=by simpa [Ch.row,CI]using C
  subst C;have H:=h.own ch.rb (uL (cF hc).1 (Bj ..));exact⟨cs,lpT,h1,λk n hn=>H.2 k n (by rw[aE h1];exact hn)⟩
theorem atC_some{ch:Ch}(hc:chE E c=some ch):∃E1 E2,AtC E c E1 E2 [ch.rb] ch.ls:=by
 obtain⟨_,A,B,rfl,_⟩:=List.find?_eq_some_iff_append.1 hc;have e:=(cF hc).2;obtain⟨C,rb,cap,ls⟩:=ch;simp only at e;subst e;exact⟨A,B,.inr ⟨rb,cap,rfl,rfl⟩⟩
open Classical in
theorem q_att_new {n0:Nat} (h:TM w t m E) (hE:TOk (trE E)) (hc:cj c) (hp:cj p) (ht:TimeOk E c f) (hn:bN (fun x=>aM (trE E) x∨x=c∨x=p) n0) (h24:n0≤24) (h64:(lsE E c).length<64) (hy:¬Cyc (trE E) c p f):
  AH AE 67 #[ptB t,.string c,.string p,.int .i64 f] w fun e w'=>e= .returned (.int .i64 0)∧∃E',TPost w t m E w' E'∧REq (trE E') (fx (trE E) c p f):=by
 have k1:=kQ (w:=w) hc;have k2:=kQ (w:=w) hp;have h1:=h.cell;have h2:=h.look c;have hop:=l7 h c;have hkn:=j5 h;have c1:decide (f<0)=false:=decide_eq_false (by have:=ht.lo;omega);have c2:decide (1099511627776<f)=false:=decide_eq_false (by have:=ht.hi;omega);rw[ht.op]at hop
 change AH _ _ _ _ (fun e w'=>e= .returned (.pointer none)∧w'=w)at hop
 have HN:=AF hn;have h24':decide ((24:Int)<(n0:Int))=false:=decide_eq_false (by omega);have HT:=AF h;have HE:=AF hE;have HY:=AF (decide_eq_false hy)
 cases hch:chE E c with
 | none=>
  replace h2:(CJ mpT (.map (some m)) (.string c) false).run AE w= .ok (.slice none 0 0) w:=by rw[h2];unfold m8;rw[hch];rfl
  have HA:=AF (show AtC E c E [] [] []from .inl ⟨rfl,rfl,rfl,rfl,hch⟩);clear hc hp ht hn h24 h hch h64 hE hy;go_enter CU,CV
  go_wp2_with (first
   | (go_at_call 123;with_reducible refine k1.mono ?_;rintro e w' ⟨rfl,hw'⟩;obtain rfl:=hw'.symm)
   | (go_at_call 123;with_reducible refine k2.mono ?_;rintro e w' ⟨rfl,hw'⟩;obtain rfl:=hw'.symm)
   | (go_at_call 124;refine hop.mono ?_;rintro e w' ⟨rfl,hw'⟩;obtain rfl:=hw'.symm)
   | (go_at_call 89;refine hkn.mono ?_;rintro e w1 ⟨b,l,rfl,hS,hbl,hl,hb⟩;obtain⟨w2,w3,hm1,hm2,hm3,hu3⟩:=eC hS hl HN.out;have HB:=AF (hu3.below hb hbl);have hcy:=pw (HT.out.below HB.out) HE.out c p f;rw[HY.out]at hcy;clear hb hl hS hbl hu3)
   | (go_at_call 125;refine hcy.mono ?_;rintro e w4 ⟨rfl,hb4⟩;have HB4:=AF (HB.out.trans (hb4.mono HB.out.size));have h14:=(HT.out.below HB4.out).cell;have h15:=re (m:=m) w4;clear hb4))
  clear k1 k2 hop hkn c1 c2 h24' hcy hm1 hm2 hm3 h1 h2 h15;have HI:=AF (show t<w4.heap.size from(HT.out.below HB4.out).lt t (by simp[fpT]));have HT4:=AF (HT.out.below HB4.out).drew
  go_region_held3 (fun w'=>w'.cell? ⟨t,0,none⟩=some (.map (some m))) (first | assumption | go_keep)
   (first
    | (go_at_call 126;refine(q_tNew _).mono ?_;rintro e w5 ⟨g,sl,rfl,hg,hTk,hso,hb5⟩;have hS5:w5.cell? ⟨t,0,none⟩=some (.map (some m)):=(by rw[hb5.cell (p:=⟨t,0,none⟩) HI.out];exact h14);obtain⟨g2,cap2,w8,w9,happ,hS8,hmu,hS9,hP⟩:=aa1 (c:=c) (p:=p) (f:=f) (v:=.slice none 0 0) HT4.out HA.out (by decide) hg hTk hso hb5 (fun k hk=>by cases hk) ⟨World.ownsRow_nil _ _ _ _,fun k hk=>by cases hk⟩;have HAP:=AF happ;have HP:=AF hP;have HR:=AF (aa2 (p:=p) (f:=f) HA.out HT4.out.keys g2 cap2 w5.heap.size g sl);replace hmu:(D1 mpT (.map (some m)) (.string c) (.slice (some ⟨g2,0,none⟩) 1 cap2)).run AE w8= .ok () w9:=hmu;clear hb5 hTk hso hg happ hP)
    | (refine xI rfl rfl rfl rfl HAP.out ?_;clear HAP))
  go_wp2;go_ret;exact⟨rfl,_,HP.out.pre HB4.out.drew HT.out,HR.out⟩
 | some ch=>
  have H:=h.chAt hch;have hpos:=ER.2 H.ne;have hls:lsE E c=ch.ls:=by unfold lsE;rw[hch];rfl
  rw[hls]at h64;obtain⟨E1,E2,hA⟩:=atC_some hch;have HA:=AF hA;obtain⟨l0,hl0⟩:∃l,ch.ls[ch.ls.length - 1]? =some l:=⟨_,AU (by omega)⟩;have hcl:=H.cell hl0;have hun:=(h.ln hch (Bb hl0)).un;have hle:decide (f<l0.x.un)=false:=decide_eq_false (by
   have:=ht.la l0 (by rw[hls,Fg];exact hl0);omega)
  replace h2:(CJ mpT (.map (some m)) (.string c) false).run AE w= .ok (.slice (some ⟨ch.rb,0,none⟩) ch.ls.length ch.cap) w:=by rw[h2];unfold m8;rw[hch];rfl
  have hm:(ch.ls.length:Int)≤9223372036854775807:=by omega
  have hk:((ch.ls.length:Int) - 1).toNat=ch.ls.length - 1:=by omega
  have hk0:(0:Int)<ch.ls.length:=by omega
  have hk1:(1:Int)≤ch.ls.length:=by omega
  have hk2:(ch.ls.length:Int) - 1<ch.ls.length:=by omega
  have hk64:decide ((64:Int)≤ch.ls.length)=false:=decide_eq_false (by omega);have H64:=AF h64;have HCH:=AF hch;generalize l0.b=lb at *;generalize l0.x.un=un at *;clear hc hp ht hn h24 h hch h64 hE hy H hpos hls hA hl0;go_enter CU,CV
  go_wp2_with (first
   | (go_at_call 123;with_reducible refine k1.mono ?_;rintro e w' ⟨rfl,hw'⟩;obtain rfl:=hw'.symm)
   | (go_at_call 123;with_reducible refine k2.mono ?_;rintro e w' ⟨rfl,hw'⟩;obtain rfl:=hw'.symm)
   | (go_at_call 124;refine hop.mono ?_;rintro e w' ⟨rfl,hw'⟩;obtain rfl:=hw'.symm)
   | (go_at_call 89;refine hkn.mono ?_;rintro e w1 ⟨b,l,rfl,hS,hbl,hl,hb⟩;obtain⟨w2,w3,hm1,hm2,hm3,hu3⟩:=eC hS hl HN.out;have HB:=AF (hu3.below hb hbl);have hcy:=pw (HT.out.below HB.out) HE.out c p f;rw[HY.out]at hcy;clear hb hl hS hbl hu3)
   | (go_at_call 125;refine hcy.mono ?_;rintro e w4 ⟨rfl,hb4⟩;have HB4:=AF (HB.out.trans (hb4.mono HB.out.size));have h14:=(HT.out.below HB4.out).cell;have h15:=re (m:=m) w4;clear hb4))
  clear k1 k2 hop hkn c1 c2 h24' hcy hm1 hm2 hm3 h1 h2 h15 hcl hun hle hm hk hk0 hk1 hk2 hk64;have HI:=AF (show t<w4.heap.size from(HT.out.below HB4.out).lt t (by simp[fpT]));have HT4:=AF (HT.out.below HB4.out).drew
  go_region_held3 (fun w'=>w'.cell? ⟨t,0,none⟩=some (.map (some m))) (first | assumption | go_keep)
   (first
    | (go_at_call 126;refine(q_tNew _).mono ?_;rintro e w5 ⟨g,sl,rfl,hg,hTk,hso,hb5⟩;have hS5:w5.cell? ⟨t,0,none⟩=some (.map (some m)):=(by rw[hb5.cell (p:=⟨t,0,none⟩) HI.out];exact h14);obtain⟨g2,cap2,w8,w9,happ,hS8,hmu,hS9,hP⟩:=aa1 (c:=c) (p:=p) (f:=f) (v:=ch.row) HT4.out HA.out H64.out hg hTk hso hb5 (fun k hk=>by simp[Ch.row,CI]at hk;simp[hk]) (HT4.out.ownRow HCH.out);have HAP:=AF happ;have HP:=AF hP;have HR:=AF (aa2 (p:=p) (f:=f) HA.out HT4.out.keys g2 cap2 w5.heap.size g sl);clear hb5 hTk hso hg happ hP)
    | (refine xI rfl rfl rfl rfl HAP.out ?_;clear HAP))
  go_wp2;go_ret;exact⟨rfl,_,HP.out.pre HB4.out.drew HT.out,HR.out⟩
end
theorem REq.refl(R:Tr):REq R R:=λ_=>rfl
theorem REq.symm{R C:Tr}(h:REq R C):REq C R:=λc=>(h c).symm
theorem REq.trans{R G C:Tr}(h:REq R G)(k:REq G C):REq R C:=λc=>(h c).trans (k c)
section
variable {R R':Tr} {c p x:Nm} {f a:Int}
theorem REq.mem(h:REq R R')(q:Nm×Lk):q∈R↔q∈R':=by
 obtain⟨c,x⟩:=q;rw[<-bI,<-bI,h c]
theorem REq.tAt(h:REq R R')(c:Nm)(a:Int):tAt R c a=tAt R' c a:=by unfold Go.Proofs.YtggfmklppkioeaaGreat.tAt;rw[h c]
theorem REq.par(h:REq R R')(a:Int)(c:Nm):par R a c=par R' a c:=by unfold Go.Proofs.YtggfmklppkioeaaGreat.par;rw[h.tAt]
theorem REq.reach(h:REq R R'){a:Int}{x y:Nm}(k:Reach R a x y):Reach R' a x y:=by
 induction k with
 | refl=>exact .refl _
 | step e _ ih=>exact .step (by rw[<-h.par];exact e) ih
theorem REq.reach_iff(h:REq R R'){a:Int}{x y:Nm}:Reach R a x y↔Reach R' a x y:=⟨h.reach,h.symm.reach⟩
theorem REq.known(h:REq R R')(x:Nm):aM R x↔aM R' x:=by
 unfold aM;exact⟨λ⟨q,h1,h2⟩=>⟨q,(h.mem q).1 h1,h2⟩,λ⟨q,h1,h2⟩=>⟨q,(h.mem q).2 h1,h2⟩⟩
theorem REq.cyc(h:REq R R'):Cyc R c p f↔Cyc R' c p f:=by
 unfold Cyc;rw[h.reach_iff];refine or_congr Iff.rfl ⟨λ⟨q,h1,h2,h3⟩=>⟨q,(h.mem q).1 h1,h2,h.reach h3⟩,λ⟨q,h1,h2,h3⟩=>⟨q,(h.mem q).2 h1,h2,h.symm.reach h3⟩⟩
theorem TOk.of_req(h:TOk R)(e:REq R R'):TOk R' where
 row:=λc=>by rw[<-e c];exact h.row c
 tm:=λq C=>h.tm q ((e.mem q).2 C)
 acy:=λa x=>(h.acy a x).mono (λu v G=>by rw[e.par];exact G)
 good:=λq C=>h.good q ((e.mem q).2 C)
 pose:=λq C=>h.pose q ((e.mem q).2 C)
theorem TSm.of_req(h:TSm R)(e:REq R R'):TSm R':=by
 obtain⟨⟨n,h1,h2⟩,h3⟩:=h;exact⟨⟨n,h1,h2.same e.known⟩,λc=>by rw[<-e c];exact h3 c⟩
end
theorem xJ{R:Tr}:oe R c↔∀x∈lks R c,x.un≠ -1:=by
 constructor
 ·intro h x G e;obtain⟨i,hi,C⟩:=BN (bI.1 G);exact h i (c,x) (by rw[AU hi,C]) ⟨rfl,e⟩
 ·rintro h i ⟨H,x⟩ hi ⟨h1,h2⟩;simp only at h1 h2;subst h1;exact h x (bI.2 (Bb hi)) h2
section
variable {w:World} {t m:Nat} {E:List Ch} {c p:Nm} {f:Int}
open Classical in
theorem rf (h:TM w t m E) (hE:TOk (trE E)) (hc:Nam c) (hp:Nam p):
  AH AE 67 #[ptB t,.string c,.string p,.int .i64 f] w fun e w'=>∃E' R' code,e= .returned (.int .i64 code)∧TPost w t m E w' E'∧REq (trE E') R'∧AttS cj (trE E) c p f R' code:=by
 by_cases hn:cj c∧cj p
 ·by_cases ht:f<0∨1099511627776<f∨(∃l,opL (lsE E c)=some l)∨∃l,(lsE E c).getLast? =some l∧f<l.x.un
  ·refine(zP h hn.1 hn.2 ht).mono ?_;rintro e w' ⟨rfl,hw⟩;obtain rfl:=hw.symm;refine⟨E,trE E,17,rfl,.refl h (AL _ _),.refl _,.time hn ?_⟩;rcases ht with ht | ht | ⟨l,ht⟩ | ⟨l,ht,hl⟩
   ·exact .inl ht
   ·exact .inr (.inl ht)
   ·refine .inr (.inr (.inl ?_));obtain⟨hun,ch,hch,hk⟩:=m9 ht;have hq:=cG.2 ⟨ch,(cF hch).1,l,Bb hk,rfl⟩;rw[(cF hch).2]at hq;obtain⟨k,hk1,hk2⟩:=BN hq;exact⟨k,l.x,by rw[AU hk1,hk2],hun⟩
   ·refine .inr (.inr (.inr ⟨l.x,?_,hl⟩));rw[iR h.keys];exact Bi.2 ⟨l,List.mem_of_getLast? ht,rfl⟩
  ·have hop:opL (lsE E c)=none:=by
    cases ho:opL (lsE E c)with
    | none=>rfl
    | some l=>exact absurd (.inr (.inr (.inl ⟨l,ho⟩))) ht
   have hT:TimeOk E c f:=⟨by omega,by omega,hop,fun l hl=>by
    by_cases h1:f<l.x.un
    ·exact absurd (.inr (.inr (.inr ⟨l,hl,h1⟩))) ht
    ·omega⟩
   have hno:=qX h hE hop;have hen:∀x∈lks (trE E) c,x.un≤f:=by
    refine ended (hE.row c) (xJ.1 hno) (fun x hx=> ?_) (fun x hx=> ?_)
    ·have h1:=hE.tm _ (bI.1 hx);have h2:=xJ.1 hno x hx;simp only at h1;rcases h1.2.2 with h3 | h3
     ·exact absurd h3 h2
     ·exact h3.1
    ·rw[iR h.keys,List.getLast?_map]at hx
     cases hl:(lsE E c).getLast? with
     | none=>rw[hl]at hx;cases hx
     | some l=>
      rw[hl]at hx;simp only[Option.map_some,Option.some.injEq]at hx;subst hx;exact hT.la l hl
   have hlen:(lks (trE E) c).length=(lsE E c).length:=by rw[iR h.keys,List.length_map]
   have hlo:=hT.lo;have hhi:=hT.hi;obtain⟨n,hcn⟩:=zQ (trE E) c p;by_cases h24:24<n
   ·refine(zR h hn.1 hn.2 hT hcn h24).mono ?_;rintro e w' ⟨rfl,hb⟩;exact⟨E,trE E,15,rfl,.refl h hb,.refl _,.full hn hlo hhi hno hen n hcn (.inl h24)⟩
   ·by_cases h64:64≤(lsE E c).length
    ·refine(zS h hn.1 hn.2 hT hcn (by omega) h64).mono ?_;rintro e w' ⟨rfl,hb⟩;exact⟨E,trE E,15,rfl,.refl h hb,.refl _,.full hn hlo hhi hno hen n hcn (.inr (by omega))⟩
    ·by_cases hy:Cyc (trE E) c p f
     ·refine(q_att_cyc h hE hn.1 hn.2 hT hcn (by omega) (by omega) hy).mono ?_;rintro e w' ⟨rfl,hb⟩;exact⟨E,trE E,19,rfl,.refl h hb,.refl _,.cycle hn hlo hhi hno hen n hcn ⟨by omega,by omega⟩ hy⟩
     ·refine(q_att_new h hE hn.1 hn.2 hT hcn (by omega) (by omega) hy).mono ?_;rintro e w' ⟨rfl,E',hP,hR⟩;exact⟨E',_,0,rfl,hP,hR,.ok hn hlo hhi hno hen n hcn ⟨by omega,by omega⟩ hy⟩
 ·refine(zO hc hp hn).mono ?_;rintro e w' ⟨rfl,hw⟩;obtain rfl:=hw.symm;exact⟨E,trE E,5,rfl,.refl h (AL _ _),.refl _,.name hn⟩
end
section
variable {w w':World} {t m:Nat} {E1 E2:List Ch} {c:Nm} {rb cap:Nat} {L1 L2:List Ln} {l:Ln} {S':List St}
abbrev setTr(l:Ln)(S':List St)(sl':Value):Ln:= {l with x:= {l.x with tr:=S'},sl:=sl'}
theorem TM.trk(h:TM w t m (cZ E1 E2 c rb cap L1 L2 l))(hM:TrkM trT w l.g l.sl S' w'):∃sl',TPost w t m (cZ E1 E2 c rb cap L1 L2 l) w' (cZ E1 E2 c rb cap L1 L2 (setTr l S' sl')):=by
 obtain⟨⟨sl',Y,hb⟩,G⟩:=hM;have H:∀g∈l.fp,bF w g:=λg C=>h.own g (h.sub g C)
 have U:=h.mid;have V:=h.lnd;have I:l.g∈l.fp:=by simp[Ln.fp]
 have aa:l.b≠l.g:=λe=>by
  unfold Ln.fp at V;exact(Bv.1 V).1 (e▸Bj ..)
 have hc:Chg w w' (· ∈l.fp):=⟨G.size,λg C hn=>G.block g C (λe=>hn (by rw[show g=l.g from e];exact I)),H⟩;have ab:Chg w w' (· =l.g):=⟨G.size,λg C hn=>G.block g C hn,λg C=>H g (by rw[show g=l.g from C];exact I)⟩;obtain⟨⟨cs,h1,h2⟩,h3⟩:=U;have K:l.b<w.heap.size:=(A8.1 h1).1;have J:w'.heap[l.b]? =w.heap[l.b]? :=G.block _ K (λe=>aa e);have hL:LnAt w' c (setTr l S' sl'):=⟨⟨cs,by rw[show(setTr l S' sl').b=l.b from rfl,J];exact h1,h2.chg ab uK⟩,Y⟩;have ac:=(Vp.row stT S'.length (bx S')).fl w' _ Y.row;refine⟨sl',h.put (l':=setTr l S' sl') rfl rfl (λb Z=>(hb b Z).imp id (·.1)) hL (λg C=> ?_) hc,⟨G.os,G.tape,G.output,G.size,λg C hn=>G.block g C (λe=>hn (by rw[show g=l.g from e];exact h.sub _ I))⟩,λg C=> ?_⟩
 ·have C:g∈l.b::l.g::sl'.ownBlock.toList:=C;simp only[A3,D2]at C;rcases C with rfl | rfl | C
  ·exact(H _ (Bj ..)).blk J G.size
  ·refine .mk' Y.blk (λk n G=> ?_)
   cases k with
   | zero=>simp at G;exact ac.2.2 n G
   | succ k=>simp at G
  ·rcases hb g C with h4 | h4
   ·have P:g∈l.fp:=by simp[Ln.fp,h4]
    exact(H g P).blk (G.block g (H g P).1 (λe=>Y.ne g C e)) G.size
   ·exact h4.2
 ·rw[fy]at C⊢;simp only[AJ]at C⊢;rcases C with(C | C) | C
  ·exact .inl (.inl (.inl C))
  ·have C:g∈l.b::l.g::sl'.ownBlock.toList:=C;simp only[A3,D2]at C;rcases C with rfl | rfl | C
   ·exact .inl (.inl (.inr (Bj ..)))
   ·exact .inl (.inl (.inr I))
   ·rcases hb g C with h4 | h4
    ·exact .inl (.inl (.inr (by simp[Ln.fp,h4])))
    ·exact .inr h4.1
  ·exact .inl (.inr C)
end
def zero21:List Leaf:=[.b false,.sl0,.sl0,.b false,.sl0,.sl0,.b false,.sl0,.sl0,.b false,.sl0,.sl0,.b false,.sl0,.sl0,.b false,.sl0,.sl0,.b false,.sl0,.sl0]
def aC:List Value:=[.bool false,.slice none 0 0,.slice none 0 0,.bool false,.slice none 0 0,.slice none 0 0,.bool false,.slice none 0 0,.slice none 0 0,.bool false,.slice none 0 0,.slice none 0 0,.bool false,.slice none 0 0,.slice none 0 0,.bool false,.slice none 0 0,.slice none 0 0,.bool false,.slice none 0 0,.slice none 0 0]
theorem zero21_h{ρ:Rho}{B:Blk}:az ρ B w zero21 aC:=⟨rfl,rfl,rfl,rfl,rfl,rfl,rfl,rfl,rfl,rfl,rfl,rfl,rfl,rfl,rfl,rfl,rfl,rfl,rfl,rfl,rfl,trivial⟩
def ng(cs:Array Value):Nat->List Value->Array Value
 | _,[]=>cs
 | o,v::vs=>ng (cs.setIfInBounds o v) (o+1) vs
theorem rh:∀(vs:List Value)(cs:Array Value)(o:Nat),(ng cs o vs).size=cs.size
 | [],_,_=>rfl
 | v::vs,cs,o=>by rw[ng,rh];simp
theorem oo:∀(vs:List Value)(cs:Array Value)(o j:Nat),o+vs.length<=cs.size->(ng cs o vs)[j]? =if o<=j/\j<o+vs.length then vs[j - o]? else cs[j]?
 | [],cs,o,j,_=>by rw[ng,if_neg (by simp only[List.length_nil];omega)]
 | v::vs,cs,o,j,h=>by
  simp only[Bz]at h⊢;rw[ng,oo vs _ _ _ (by simp;omega),Eh];by_cases h1:o+1<=j/\j<o+1+vs.length
  ·rw[if_pos h1,if_pos Aa,show j - o=(j - (o+1))+1 by omega];rfl
  ·rw[if_neg h1];by_cases h2:o=j
   ·subst h2;rw[if_pos rfl,if_pos Aa,if_pos Aa,Nat.sub_self];rfl
   ·rw[if_neg h2,if_neg Aa]
theorem cS:∀(vs:List Value)(w:World)(b o:Nat),Upd w b (w.setCells b o vs)
 | [],w,b,o=>⟨rfl,rfl,rfl,rfl,λ_ _=>rfl⟩
 | v::vs,w,b,o=>(Upd.cell w b o v).trans (cS vs _ b (o+1))
theorem dH:∀(vs:List Value)(w:World)(b o:Nat)(cs:Array Value)(T:TypeId),w.heap[b]? =some (.cells cs T (0,0))->(w.setCells b o vs).heap[b]? =some (.cells (ng cs o vs) T (0,0))
 | [],w,b,o,cs,T,h=>h
 | v::vs,w,b,o,cs,T,h=>dH vs _ b (o+1) _ T (CH w b o cs T v h)
theorem aB:∀ {rs:List Rq} {cs:List Value},aW w rs cs->cs.length=3*rs.length
 | [],cs,h=>by have h:cs=[]:=h;subst h;rfl
 | r::rs,cs,h=>by
  obtain⟨a,c,b,d,C,rfl,_,_,h⟩:=h;have:=aB h;simp only[Bz,this];omega
theorem eD:∀ {rs:List Rq} {cs:List Value},aW w rs cs->∀v∈cs,v.oneCell'=true
 | [],cs,h,v,hv=>by have h:cs=[]:=h;subst h;cases hv
 | r::rs,cs,h,v,hv=>by
  obtain⟨a,c,b,d,C,rfl,_,_,h⟩:=h;simp only[A3]at hv;rcases hv with rfl | rfl | rfl | hv
  ·rfl
  ·rfl
  ·rfl
  ·exact eD h v hv
theorem bQ{B:Nat}{a:World}:∀(vs:List Value)(o:Nat)(w:World){b:Nat},AG B a w->B<=b->AG B a (w.setCells b o vs)
 | [],_,_,_,h,_=>h
 | v::r,o,w,b,h,hb=>by
  rw[World.setCells];exact bQ r (o+1) _ (h.setCell (p:=⟨b,o,none⟩) hb v) hb
theorem ie{B:Nat}{cs:Array Value}{T:TypeId}(h:w.heap[B]? =some (.cells cs T (0,0))):w.there B 0 cs.size:=λj C=>by
 refine⟨?_,by simp[World.frozen?,h]⟩;rw[aE h,Bh,Array.getElem?_eq_getElem C];rfl
theorem nh:∀ {xs:List Fq} {cs:List Value},cs.length=3*xs.length->(∀(j:Nat)(q:Vp),(frs xs)[j]? =some q->∃u,cs[j]? =some u/\q.p w u)->aW w (xs.map Fq.raw) cs
 | [],cs,hl,_=>by
  have:cs=[]:=List.eq_nil_of_length_eq_zero (by simpa using hl);exact this
 | x::xs,cs,hl,h=>by
  match cs,hl with
  | c0::c1::c2::cs,hl=>
   obtain⟨P,G,J⟩:=h 0 _ rfl;obtain⟨U,H,C⟩:=h 1 _ rfl;obtain⟨V,I,k2⟩:=h 2 _ rfl;injection G with G;injection H with H;injection I with I;subst G;subst H;subst I;have J:c0= .bool x.s:=J.1;subst J;have C:IsR w (.agg #[c1]) (nl x.p) x.p:=C;have k2:IsR w (.agg #[c2]) (nl x.q) x.q:=k2;obtain⟨a,c,f1,r1⟩:=id C;obtain⟨b,d,f2,r2⟩:=id k2;have f1:c1= .slice a (nl x.p) c:=by injection f1 with f1;simpa using f1
   have f2:c2= .slice b (nl x.q) d:=by injection f2 with f2;simpa using f2
   subst f1;subst f2;exact⟨a,c,b,d,cs,rfl,C,k2,nh (by simp at hl;omega) (λj q K=>by
    obtain⟨u,g1,g2⟩:=h (j+3) q (by simpa [frs]using K);exact⟨u,by simpa using g1,g2⟩)⟩
theorem iS(w:World):bh w (.agg aC.toArray) Pq.zero:=⟨aC,rfl,gT (n:=7) (zero21_h (ρ:=[]) (B:=noB))⟩
theorem iT{C:Array Value}(h:C.size=vs.length):ng C 0 vs=vs.toArray:=by
 apply Array.ext_getElem?;intro i;rw[oo _ _ _ _ Aa];by_cases hi:i<vs.length
 ·rw[if_pos ⟨Aa,Aa⟩];simp
 ·rw[if_neg Aa,E7 Aa,E7 (by simp;omega)]
theorem tc{P:A0}{fn:Func}{p u:Tmp}{ty:TypeId}(h:fn.results=#[.cell p ty,.tmp u])(tmps:Array Value)(w:World)(g:Nat)(t:TypeId)(cs:Array Value)(fr:Nat×Nat)(d:TypeDesc)
  (hp:tmps.getD p undef= .pointer (some ⟨g,0,none⟩))(G:w.heap[g]? =some (.cells cs t fr))
  (H:P.underlying ty=some d)(C:(match d with | .struct _ | .array _ _=>true | _=>false)=true)(hi:(P.info? ty).map (·.size)=some cs.size):
  (results fn tmps).run P w= .ok (.tuple #[.agg cs,tmps.getD u undef]) w:=by
 rw[results_cell_tmp h,hp];simp[asAddr,AX,run_loadVar_row w g t ty cs fr d G H C hi]
section
variable {ρ:Rho} {n m:Nat} {u c r:Int} {ik kd:IntKind} {l:Leaf} {t s d:TypeId}
theorem uP(h1:KI ρ l .u8 u)(H:ρ[m]? =some (.val (.int .u8 r)))(hr:u.tmod c=r)(h0:¬(c=0)):(OIns.mk (.bin .rem t) [.one l,.one (.i .u8 c)] (.one (.ref m))).Ok AE ρ:=λB w vs hv=>by
 match vs,hv with
 | [v0,v1],hv=>
  have C:=h1 _ _ _ hv.1;have G:v1= .int .u8 c:=hv.2.1;subst C;subst G;subst hr;refine⟨.int .u8 (u.tmod c),bY H (go th),λI J=> ?_⟩;simp[eqGuard,binOp,Op.intDiv,h0,AO,AX]
theorem aa3(hs:AE.underlying s=some (.int ik))(C:AE.underlying d=some (.int .i64))(h1:KI ρ l ik u)(G:ρ[m]? =some (.val (.int .i64 u)))(I: -9223372036854775808<=u)(k2:u<=9223372036854775807):(OIns.mk (.conv s d) [.one l] (.one (.ref m))).Ok AE ρ:=λB w vs hv=>by
 match vs,hv with
 | [v1],hv=>
  have e:=h1 _ _ _ hv.1;subst e;refine⟨.int .i64 u,bY G cw,?_⟩;have H:Bd.wrap u=u:=by rw[BQ];omega
  simp[convert,Conv.intToInt,AO,run_underlying hs,run_underlying C,AX,H]
end
variable{xs:List Fq}{ys:Rho}
theorem I_intK{l:Leaf}{k:Nat}{u:Int}(f:FuncId)(C:∀(vs:Array Value)(w:World),(callFunc f vs).run AE w= .ok (.enter f vs) w)(h:∀w:World,AH AE f #[.int .i64 u] w λe w'=>eN w (Fq.ofInt u) e w')(h1:KI (frs xs++ys) l .i64 u)(G:xs[k]? =some (.ofInt u)):OkI xs ys ⟨f,[.one l],.v (fr k)⟩:=
 ⟨C,λB w vs hB h0=>by
  match vs,h0 with
  | [va],h0=>
   have e:=h1 _ _ _ h0.1;subst e;refine(h w).mono ?_;rintro e w' ⟨v,rfl,h2,h3⟩;exact⟨v,rfl,(aw G).2 h2,h3⟩⟩
theorem px{l:Leaf}{k:Nat}{u:Int}(h1:KI (frs xs++ys) l .i64 u)(C:xs[k]? =some (.ofInt u))(G: -9223372036854775808<=u)(H:u<9223372036854775808):OkI xs ys ⟨51,[.one l],.v (fr k)⟩:=I_intK _ (ai Tryz.func51 rfl rfl) (λw=>q_rInt u w G H) h1 C
def aT(x u:Int):Pq:=⟨⟨Fq.ofInt (if u % 8=7 then 2 else 1),Fq.ofInt 0,Fq.ofInt 0,Fq.ofInt (u % 7)⟩,⟨Fq.ofInt x,Fq.ofInt 0,Fq.ofInt 0⟩⟩
def td(x u:Int):List Fq:=(Pq.id.cs++([(Fq.ofInt x),(Fq.ofInt (u % 7))]))
theorem q_Pose0(x u:Int)(I: -128<=x/\x<128)(C:0<=u/\u<256)(H:u % 8≠7):
  AH AE 86 #[.int .i8 x,.int .u8 u] w λe w'=>qC w (aT x u) e w':=by
 refine(mF (ρ:=frs (td x u)++([.val (.int .i8 x),.val (.int .u8 u),.val (.int .i64 x),.val (.int .u8 (u % 7)),.val (.int .i64 (u % 7)),.val (.int .u8 (u % 8))]:List Vp)) (w:=w) (fuel:=300) (args:=[.one (.ref 27),.one (.ref 28)]) (vs:=[.int .i8 x,.int .u8 u]) (r:=.v (row [0,1,2,8,7,5,6])) (lo:=[]) (obs:=[])
  (ae (I_rpId (kr:=[0,1,2,3,4,5,6]) Af) (ae (px (k:=7) (u:=x) (mU (n:=29) rfl) rfl Aa Aa) (ae (px (k:=8) (u:=(u % 7)) (mU (n:=31) rfl) rfl Aa Aa) ag)))
  (aj (aa3 (m:=29) (s:=65) (d:=2) Tryz.underlying65 Tryz.underlying2 (mU (n:=27) rfl) rfl Aa Aa) (aj (uP (t:=5) (u:=u) (m:=30) (c:=7) (mU (n:=28) rfl) rfl (Cz C.1) th) (aj (aa3 (m:=31) (s:=5) (d:=2) DJ Tryz.underlying2 (mU (n:=30) rfl) rfl Aa Aa) (aj (uP (t:=5) (u:=u) (m:=32) (c:=8) (mU (n:=28) rfl) rfl (Cz C.1) th) (aj (o_int (t:=5) (mU (n:=32) rfl) (xf (c:=7)) (ib_eql_f Aa)) (ah)))))) Ab Tryz.func86 Ab tZ ⟨bY (n:=27) rfl (go th),⟨bY (n:=28) rfl (go th),trivial⟩⟩).mono ?_
 rintro e w' ⟨v,rfl,h1,h2⟩;have G:aT x u=⟨⟨Fq.ofInt 1,Fq.ofInt 0,Fq.ofInt 0,Fq.ofInt (u % 7)⟩,⟨Fq.ofInt x,Fq.ofInt 0,Fq.ofInt 0⟩⟩:=by unfold aT;rw[if_neg H]
 rw[G];exact⟨v,rfl,(af (xs:=td x u) (ks:=[0,1,2,8,7,5,6]) (vs:=[Pq.id.rot.w,Pq.id.rot.x,Pq.id.rot.y,(Fq.ofInt (u % 7)),(Fq.ofInt x),Pq.id.pos.y,Pq.id.pos.z]) Af).1 h1,h2⟩
def te(x u:Int):List Fq:=(Pq.id.cs++([(Fq.ofInt x),(Fq.ofInt (u % 7)),(Fq.ofInt 2)]))
theorem q_Pose1(x u:Int)(I: -128<=x/\x<128)(C:0<=u/\u<256)(H:u % 8=7):
  AH AE 86 #[.int .i8 x,.int .u8 u] w λe w'=>qC w (aT x u) e w':=by
 refine(mF (ρ:=frs (te x u)++([.val (.int .i8 x),.val (.int .u8 u),.val (.int .i64 x),.val (.int .u8 (u % 7)),.val (.int .i64 (u % 7)),.val (.int .u8 (u % 8))]:List Vp)) (w:=w) (fuel:=300) (args:=[.one (.ref 30),.one (.ref 31)]) (vs:=[.int .i8 x,.int .u8 u]) (r:=.v (row [9,1,2,8,7,5,6])) (lo:=[]) (obs:=[])
  (ae (I_rpId (kr:=[0,1,2,3,4,5,6]) Af) (ae (px (k:=7) (u:=x) (mU (n:=32) rfl) rfl Aa Aa) (ae (px (k:=8) (u:=(u % 7)) (mU (n:=34) rfl) rfl Aa Aa) (ae (jm (k:=9) rfl th th) ag))))
  (aj (aa3 (m:=32) (s:=65) (d:=2) Tryz.underlying65 Tryz.underlying2 (mU (n:=30) rfl) rfl Aa Aa) (aj (uP (t:=5) (u:=u) (m:=33) (c:=7) (mU (n:=31) rfl) rfl (Cz C.1) th) (aj (aa3 (m:=34) (s:=5) (d:=2) DJ Tryz.underlying2 (mU (n:=33) rfl) rfl Aa Aa) (aj (uP (t:=5) (u:=u) (m:=35) (c:=8) (mU (n:=31) rfl) rfl (Cz C.1) th) (aj (o_int (t:=5) (mU (n:=35) rfl) (xf (c:=7)) (ib_eql_t Aa)) (ah)))))) Ab Tryz.func86 Ab tZ ⟨bY (n:=30) rfl (go th),⟨bY (n:=31) rfl (go th),trivial⟩⟩).mono ?_
 rintro e w' ⟨v,rfl,h1,h2⟩;have G:aT x u=⟨⟨Fq.ofInt 2,Fq.ofInt 0,Fq.ofInt 0,Fq.ofInt (u % 7)⟩,⟨Fq.ofInt x,Fq.ofInt 0,Fq.ofInt 0⟩⟩:=by unfold aT;rw[if_pos H]
 rw[G];exact⟨v,rfl,(af (xs:=te x u) (ks:=[9,1,2,8,7,5,6]) (vs:=[(Fq.ofInt 2),Pq.id.rot.x,Pq.id.rot.y,(Fq.ofInt (u % 7)),(Fq.ofInt x),Pq.id.pos.y,Pq.id.pos.z]) Af).1 h1,h2⟩
theorem uQ(x u:Int)(G: -128<=x/\x<128)(C:0<=u/\u<256):AH AE 86 #[.int .i8 x,.int .u8 u] w λe w'=>qC w (aT x u) e w':=by
 by_cases h:u % 8=7
 ·exact q_Pose1 x u G C h
 ·exact q_Pose0 x u G C h
def xffrX(a:Fq):List Fq:=[a]
theorem q_ffr(va:Value)(a:Fq)(w:World)(ia:IsQ w va a)(ha:a.ok 1000000000):
  AH AE 163 #[va] w λe w'=>eN w a e w':=by
 refine(cRn (ρ:=frs (xffrX a)++([]:List Vp)) (args:=[fr 0]) (vs:=[va]) (r:=.v (fr 0))
  (ae (mV (n:=1) (m:=1) rfl rfl (AI ha.p th)) (ae (mV (n:=2) (m:=2) rfl rfl (AI ha.q th)) ag))
  ah Tryz.func163 Ab ⟨(aw (xs:=xffrX a) (k:=0) rfl).2 ia,trivial⟩).mono ?_
 rintro e w' ⟨v,rfl,h1,h2⟩;exact⟨v,rfl,(aw (xs:=xffrX a) (k:=0) rfl).1 h1,h2⟩
theorem ri{ia:Nat}{a:Fq}{ir:Nat}(C:xs[ia]? =some a)(G:xs[ir]? =some a)(ha:a.ok 1000000000):OkI xs ys ⟨163,[fr ia],.v (fr ir)⟩:=
 ⟨ai Tryz.func163 rfl rfl,λB w vs hB h=>by
  match vs,h with
  | [va],h=>
   refine(q_ffr va a w ((aw C).1 h.1) ha).mono ?_;rintro e w' ⟨v,rfl,h1,h2⟩;exact⟨v,rfl,(aw G).2 h1,h2⟩⟩
def xfcpX(a:Pq):List Fq:=a.cs
theorem q_fcp(va:Value)(a:Pq)(w:World)(ia:bh w va a)(ha:a.ok 1000000000):
  AH AE 97 #[va] w λe w'=>qC w a e w':=by
 refine(cRn (ρ:=frs (xfcpX a)++([]:List Vp)) (args:=[row [0,1,2,3,4,5,6]]) (vs:=[va]) (r:=.v (row [0,1,2,3,4,5,6]))
  (ae (ri (ia:=0) (ir:=0) rfl rfl (ha.rot.w.mono th)) (ae (ri (ia:=1) (ir:=1) rfl rfl (ha.rot.x.mono th)) (ae (ri (ia:=2) (ir:=2) rfl rfl (ha.rot.y.mono th)) (ae (ri (ia:=3) (ir:=3) rfl rfl (ha.rot.z.mono th)) (ae (ri (ia:=4) (ir:=4) rfl rfl (ha.pos.x.mono th)) (ae (ri (ia:=5) (ir:=5) rfl rfl (ha.pos.y.mono th)) (ae (ri (ia:=6) (ir:=6) rfl rfl (ha.pos.z.mono th)) ag)))))))
  ah Tryz.func97 Ab ⟨(af (xs:=xfcpX a) (ks:=[0,1,2,3,4,5,6]) (vs:=a.cs) Af).2 ia,trivial⟩).mono ?_
 rintro e w' ⟨v,rfl,h1,h2⟩;exact⟨v,rfl,(af (xs:=xfcpX a) (ks:=[0,1,2,3,4,5,6]) (vs:=a.cs) Af).1 h1,h2⟩
section
open Go.ChangeShapes Go.WideShapes Go.ChangeAt Go.RowKit
section
variable {H:Type} {enc:TypeId×Value->H} {W:World}
theorem ig:∀ {rs:List Rq} {cs:List Value} {j:Nat} {q:Vp},aW W rs cs->(uB rs)[j]? =some q->∃u,cs[j]? =some u/\q.p W u/\∀g,¬q.fp W u g
 | [],_,_,_,_,h=>by simp[uB]at h
 | r::rs,cs,j,q,hc,h=>by
  obtain⟨a,c,b,d,C,rfl,h1,h2,h3⟩:=hc;simp only[uB,Cq]at h
  match j,h with
  | 0,h=>simp at h;subst h;exact⟨_,rfl,⟨rfl,bM⟩,λ_ h=>h⟩
  | 1,h=>simp at h;subst h;exact⟨_,rfl,h1,λ_ h=>h⟩
  | 2,h=>simp at h;subst h;exact⟨_,rfl,h2,λ_ h=>h⟩
  | j+3,h=>
   obtain⟨u,G,k2⟩:=ig (rs:=rs) (cs:=C) (j:=j) (q:=q) h3 (by simpa [uB]using h);exact⟨u,by simpa using G,k2⟩
theorem st_qs{x:RSt}{cs:List Value}{j:Nat}{q:Vp}(hc:aW W x.rs cs)(h:x.qs[j]? =some q):∃u,(.int .i64 x.tm::cs)[j]? =some u/\q.p W u/\∀g,¬q.fp W u g:=by
 cases j with
 | zero=>
  simp[RSt.qs]at h;subst h;exact⟨_,rfl,⟨rfl,cw⟩,λ_ h=>h⟩
 | succ j=>
  obtain⟨u,C,k2⟩:=ig (j:=j) (q:=q) hc (by simpa [RSt.qs]using h);exact⟨u,by simpa using C,k2⟩
end
end
inductive SetS(add:List St->List St×Int)(R:Tr)(c:Nm)(a:Int):Tr->Int->Prop
 | none (h:tAt R c a=none):SetS add R c a R 18
 | still {x:Lk} (h:tAt R c a=some x) (hs:x.st=true):SetS add R c a R 10
 | ok {A B:Tr} {x:Lk} (e:R=A++(c,x)::B) (h:tAt R c a=some x) (hs:x.st=false):SetS add R c a (A++(c,{x with tr:=(add x.tr).1})::B) (add x.tr).2
inductive FixS(ok:Bool)(p:Pq)(R:Tr)(c:Nm):Tr->Int->Prop
 | none (h:oe R c):FixS ok p R c R 18
 | state {k:Nat} {x:Lk} (h:eA R c k x) (hs:x.st=true\/x.tr≠ []):FixS ok p R c R 10
 | range {k:Nat} {x:Lk} (h:eA R c k x) (hs:x.st=false) (ht:x.tr=[]) (hp:ok=false):FixS ok p R c R 4
 | ok {A B:Tr} {x:Lk} (e:R=A++(c,x)::B) (h:x.un= -1) (hs:x.st=false) (ht:x.tr=[]) (hp:ok=true):FixS ok p R c (A++(c,{x with st:=true,po:=p})::B) 0
theorem tAt_E(h:TM w t m E){a:Int}{o:Option Ln}(hl:atE E c a=o):tAt (trE E) c a=o.map (·.x):=by rw[<-h.tAt,hl]
abbrev stV(a:Int)(cs:List Value):Value:=.agg (.int .i64 a::cs).toArray
variable{cs:List Value}
theorem uR(h:cs.length=21):∃c0 c1 c2 c3 c4 c5 c6 c7 c8 c9 c10 c11 c12 c13 c14 c15 c16 c17 c18 c19 c20,cs=[c0,c1,c2,c3,c4,c5,c6,c7,c8,c9,c10,c11,c12,c13,c14,c15,c16,c17,c18,c19,c20]:=by
 match cs,h with
 | [c0,c1,c2,c3,c4,c5,c6,c7,c8,c9,c10,c11,c12,c13,c14,c15,c16,c17,c18,c19,c20],_=>exact⟨_,_,_,_,_,_,_,_,_,_,_,_,_,_,_,_,_,_,_,_,_,rfl⟩
set_option maxHeartbeats 1000000 in
theorem q_Set{a:Int}(h:TM w t m E)(hl:cs.length=21)(add:List St->List St×Int)
  (U:∀w' g sl S,(∃l∈lsE E c,S=l.x.tr)->AG w.heap.size w w'->TrkS trT w' g sl S->AH AE 127 #[ptB g,stV a cs] w' λe P=>e= .returned (.int .i64 (add S).2)/\TrkM trT w' g sl (add S).1 P):
  AH AE 69 #[ptB t,.string c,stV a cs] w λe w'=>∃E' R' code,e= .returned (.int .i64 code)/\TPost w t m E w' E'/\REq (trE E') R'/\SetS add (trE E) c a R' code:=by
 obtain⟨w1,aq⟩:∃w1,w.alloc (.cells (.int .i64 a::cs).toArray 120)=w1:=⟨_,rfl⟩;have I:AG w.heap.size w w1:=by rw[<-aq];exact(AL _ _).alloc (AK _) _
 have G:w1.heap[w.heap.size]? =some (.cells (.int .i64 a::cs).toArray 120 (0,0)):=by rw[<-aq];exact BE w _
 have h1:=h.below I;have J:=oQ h1 c a;generalize hB:w.heap.size=B at *;have av:w1.cell? ⟨B,0,none⟩=some (.int .i64 a):=by rw[aE G];rfl
 cases hl0:atE E c a with
 | none=>
  rw[hl0]at J
  change AH _ _ _ _ (λe w'=>e= .returned (.pointer none)/\w'=w1)at J
  have HP:=AF (show∃E' R' code,A4 (.int .i64 18)= .returned (.int .i64 code)/\TPost w t m E w1 E'/\REq (trE E') R'/\SetS add (trE E) c a R' code from⟨E,_,18,rfl,.refl h (by rw[hB];exact I),.refl _,.none (tAt_E h hl0)⟩);clear h h1 hl0 I G U hl;go_enter Tryz.func69,Tryz.ntmps69
  go_wp2_with (go_at_call 90;refine J.mono ?_;rintro e w' ⟨rfl,Y⟩;obtain rfl:=Y.symm)
  go_ret;exact HP.out
 | some l=>
  rw[hl0]at J
  change AH _ _ _ _ (λe w'=>e= .returned (ptB l.b)/\w'=w1)at J
  obtain⟨ch,aa,ab,hL⟩:=jB h1 hl0;have ap:=hL.st;have ak:=hL.tp;have ac:tAt (trE E) c a=some l.x:=tAt_E h hl0
  cases hx:l.x.st with
  | true=>
   rw[hx]at ap;have HP:=AF (show∃E' R' code,A4 (.int .i64 10)= .returned (.int .i64 code)/\TPost w t m E w1 E'/\REq (trE E') R'/\SetS add (trE E) c a R' code from⟨E,_,10,rfl,.refl h (by rw[hB];exact I),.refl _,.still ac hx⟩);clear h h1 hl0 I G U hl aa ab hL ac hx ak;generalize l.b=lb at *;go_enter Tryz.func69,Tryz.ntmps69
   go_wp2_with (go_at_call 90;refine J.mono ?_;rintro e w' ⟨rfl,Y⟩;obtain rfl:=Y.symm)
   go_ret;exact HP.out
  | false=>
   rw[hx]at ap;obtain⟨k,hk,ek⟩:=BN ab;have am:ch.ls[k]? =some l:=by rw[AU hk,ek]
   obtain⟨E1,E2,L1,L2,hE,_,ay⟩:=zN aa am;have V:TM w1.drew t m (cZ E1 E2 c ch.rb ch.cap L1 L2 l):=by rw[<-hE];exact h1.drew
   have ad:=U w1.drew l.g l.sl l.x.tr ⟨l,(by unfold lsE;rw[aa];exact ab),rfl⟩ I.drew V.mid.trk;have HP:=AF (show∀P,TrkM trT w1.drew l.g l.sl (add l.x.tr).1 P->(∀j,P.cell? ⟨l.b,j,none⟩=w1.cell? ⟨l.b,j,none⟩)/\(∀j,P.cell? ⟨B,j,none⟩=w1.cell? ⟨B,j,none⟩)/\∃E' R' code,A4 (.int .i64 (add l.x.tr).2)= .returned (.int .i64 code)/\TPost w t m E P E'/\REq (trE E') R'/\SetS add (trE E) c a R' code from λP hM=>by
    have a2:l.g<B:=by rw[<-hB];exact h.lt l.g (by rw[hE];exact V.sub _ (by simp[Ln.fp]))
    have ax:l.b<w1.heap.size:=by
     obtain⟨⟨cs,k1,_⟩,_⟩:=hL;exact(A8.1 k1).1
    have a0:l.b≠l.g:=λe=>by
     have an:=V.lnd;unfold Ln.fp at an;exact(Bv.1 an).1 (e▸Bj ..)
    have ar:B<w1.heap.size:=(A8.1 G).1;refine⟨λj=>BM (hM.kept.block l.b ax a0),λj=>BM (hM.kept.block B ar (λe=>by have e:B=l.g:=e;omega)),?_⟩;obtain⟨sl',hP⟩:=V.trk hM;refine⟨_,_,_,rfl,TPost.pre (by rw[hB];exact I.drew) h (by rw[hE];exact hP),.refl _,?_⟩;have au:trE E=(trE E1++L1.map λl=>(c,l.x))++(c,l.x)::((L2.map λl=>(c,l.x))++trE E2):=by rw[hE,gZ]
    rw[gZ];exact .ok au ac hx)
   have HA:=AF ad;have ao:w1.rangeAt B 0 (.int .i64 a::cs):=λj v hv=>by rw[aE G,Bh];simpa using hv
   have a1:(AE.info? 120).map (·.size)=some (.int .i64 a::cs:List Value).length:=by rw[Bz,hl];kernel_rfl
   clear h h1 hl0 I G U hl aa ab hL ac hx hk am ek ay V ad hE;generalize l.b=lb at *;generalize l.g=lg at *;generalize (add l.x.tr).2=code at *;go_enter Tryz.func69,Tryz.ntmps69
   go_wp2_with (go_at_call 90;refine J.mono ?_;rintro e w' ⟨rfl,Y⟩;obtain rfl:=Y.symm)
   refine wp_region_held_drew (S:=λw'=>w'.cell? ⟨lb,26,none⟩=some (ptB lg)/\w'.rangeAt B 0 (.int .i64 a::cs)) Ab ⟨by simpa using ak,by simpa using ao⟩ (λC=> ?_);refine BX (i:=0) (v:=ptB lb) rfl Ab Ab Ab (λ_ _ _ h=>h) (A1 ⟨Ai,λw hw=>Ai⟩) C ?_;refine BX (i:=1) (v:=ptB lb) rfl Ab Ab Ab (λ_ _ _ h=>h) (A1 ⟨Ai,λw hw=>Am⟩) C ?_;refine BX (i:=2) (v:=.pointer (some ⟨lb,26,none⟩)) rfl Ab Ab Ab (λ_ _ _ h=>h) (A1 ⟨Ai,λw hw=>Am⟩) C ?_;refine BX (i:=3) (v:=ptB lg) rfl Ab Ab Ab (λ_ _ _ h=>h) (A1 ⟨Ai,λw hw=>by have:=hw.1;go_simp⟩) C ?_;refine BX (i:=4) (v:=stV a cs) rfl Ab Ab Ab (λ_ _ _ h=>h) (yieldsIf_load_mid Ai _ _ rfl B 0 rfl _ _ (λw hw=>hw.2) Tryz.underlying120 rfl a1) C ?_;refine wpAnyH_ready (rs:=[5]) Ab Ag ?_;refine AllReadyH.cons rfl (λK hK=> ?_) AllReadyH.nil;go_simp;go_at_call 127
   refine HA.out.mono ?_;rintro e w2 ⟨rfl,hM⟩;obtain⟨e1,e2,hq⟩:=HP.out _ hM;have HQ:=AF hq;refine hK.out _ _ ⟨(e1 26).trans ak,λj v hv=>(e2 _).trans (ao j v hv)⟩ (λZ=> ?_);clear hK K hM e1 e2 hq C;refine BX (i:=6) (v:=.int .i64 code) rfl Ab Ab Ab (λ_ _ _ h=>h) (A1 ⟨Ai,λw hw=>Ai⟩) Z ?_;refine wpAnyH_done Ab ?_ _;go_wp2;go_ret;exact HQ.out
theorem TM.setB{w':World}{rb cap:Nat}{L1 L2:List Ln}{l l':Ln}(h:TM w t m (cZ E1 E2 c rb cap L1 L2 l))(u:Upd w l.b w')(hc:∃cs,w'.heap[l.b]? =some (.cells cs lkT (0,0))/\lZ w' cs (lnQ c l'))(hb:l'.b=l.b)(I:l'.g=l.g)(hs:l'.sl=l.sl)(ht:l'.x.tr=l.x.tr):
  TPost w t m (cZ E1 E2 c rb cap L1 L2 l) w' (cZ E1 E2 c rb cap L1 L2 l'):=by
 have G:∀g∈l.fp,bF w g:=λg I=>h.own g (h.sub g I)
 have hn:=h.lnd;have e:l'.fp=l.fp:=by unfold Ln.fp;rw[hb,I,hs]
 have V:bF w l.b:=G _ (Bj ..);have U:Chg w w' (· =l.b):=.upd V u;have K:Chg w w' (· ∈l.fp):=⟨by rw[u.size];exact AK _,λg _ I=>u.block g (λe=>I (e▸Bj ..)),G⟩;have J:l.b≠l.g/\∀b,l.sl.ownBlock=some b->b≠l.b:=by
  unfold Ln.fp at hn;obtain⟨Z,_⟩:=Bv.1 hn;exact⟨λe=>Z (e▸Bj ..),λb hb e=>Z (e▸Bg _ (by simp[hb]))⟩
 obtain⟨cs,h1,h2⟩:=hc;have Y:bF w' l.b:=.mk' h1 (λk n K=>by
  obtain⟨q,hq⟩:∃q,(lnQ c l')[k]? =some q:=⟨_,AU (by rw[<-h2.1];exact(A8.1 K).1)⟩;obtain⟨v,P,k2⟩:=h2.2 k q hq;rw[K]at P;injection P with P;subst P;exact(q.fl _ _ k2).2.2 n rfl)
 refine⟨h.put hb I (λb hb=>.inl (hs▸hb)) ⟨⟨cs,by rw[hb];exact h1,h2⟩,by rw[I,hs,ht];exact h.mid.trk.chg U (λe=>J.1 e.symm) J.2⟩ (λg C=> ?_) K,.upd u (h.sub _ (Bj ..)),λg C=>.inl ?_⟩
 ·rw[e]at C;by_cases e2:g=l.b
  ·subst e2;exact Y
  ·exact(G g C).blk (u.block g e2) (by rw[u.size];exact AK _)
 ·rw[fy]at C⊢;rw[hb,I,hs]at C;exact C
theorem fixed_mem{rb cap:Nat}{L1 L2:List Ln}{l:Ln}{p:Pq}(h:TM w t m (cZ E1 E2 c rb cap L1 L2 l))(hv:bh w (.agg cs.toArray) p):
  TPost w t m (cZ E1 E2 c rb cap L1 L2 l) ((w.setCell ⟨l.b,4,none⟩ (.bool true)).setCells l.b 5 cs) (cZ E1 E2 c rb cap L1 L2 {l with x:= {l.x with st:=true,po:=p}}):=by
 obtain⟨U,K,hc⟩:=hv;have K:cs=U:=by injection K with K;simpa using K
 subst K;have I:cs.length=21:=aB hc;obtain⟨⟨C,h1,h2,h3⟩,_⟩:=h.mid;have P:C.size=27:=h2;have u:Upd w l.b ((w.setCell ⟨l.b,4,none⟩ (.bool true)).setCells l.b 5 cs):=(Upd.cell w l.b 4 _).trans (cS cs _ l.b 5);have hk:Chg w ((w.setCell ⟨l.b,4,none⟩ (.bool true)).setCells l.b 5 cs) (· =l.b):=.upd (h.own _ (h.sub _ (Bj ..))) u;refine h.setB u ⟨ng (C.setIfInBounds 4 (.bool true)) 5 cs,dH cs _ l.b 5 _ lkT (CH w l.b 4 C lkT _ h1),by rw[rh,Array.size_setIfInBounds];exact P,λj q J=> ?_⟩ rfl rfl rfl rfl;rw[oo _ _ _ _ (by simp[P,I]),I];by_cases hj:5<=j/\j<5+21
 ·rw[if_pos hj];have G:(uB [p.rot.w.raw,p.rot.x.raw,p.rot.y.raw,p.rot.z.raw,p.pos.x.raw,p.pos.y.raw,p.pos.z.raw])[j - 5]? =some q:=by
   have e:lnQ c {l with x:= {l.x with st:=true,po:=p}}=[.val (.string c),.val (.string l.x.par),.val (.int .i64 l.x.fr),.val (.int .i64 l.x.un),.val (.bool true)]++(frs p.cs++ [.val (ptB l.g)]):=rfl;rw[e,Bq (by simp;omega)]at J;rw[List.getElem?_append_left (by show j - 5<21;omega)]at J;exact J
  obtain⟨v,Z,k2,k3⟩:=ig hc G;exact⟨v,Z,(q.ch _ _ _ v k2 hk (λg V=>absurd V (k3 g))).1⟩
 ·rw[if_neg hj,Eh];by_cases h4:4=j
  ·subst h4;rw[if_pos rfl,if_pos Aa];have:q= .val (.bool true):=by
    have e:(lnQ c {l with x:= {l.x with st:=true,po:=p}})[4]? =some (.val (.bool true)):=rfl;rw[e]at J;injection J with J;exact J.symm
   subst this;exact⟨_,rfl,rfl,bM⟩
  ·rw[if_neg h4];have G:(lnQ c l)[j]? =some q:=by
    rw[<-J];unfold lnQ;rcases Nat.lt_or_ge j 5 with h5 | h5
    ·match j,h5,h4 with
     | 0,_,_=>rfl
     | 1,_,_=>rfl
     | 2,_,_=>rfl
     | 3,_,_=>rfl
     | n+4,h5,h4=>exact absurd (show 4=n+4 by omega) h4
    ·obtain⟨i,rfl⟩:∃i,j=26+i:=⟨j - 26,Aa⟩;have e1:∀x:Pq,(frs x.cs++ [Vp.val (ptB l.g)])[21+i]? =[Vp.val (ptB l.g)][i]? :=λx=>by
      rw[Bq (by show 21<=21+i;omega)];show [Vp.val (ptB l.g)][21+i - 21]? =_;rw[Nat.add_sub_cancel_left]
     have e2:∀(a b c d e:Vp)(M:List Vp),(a::b::c::d::e::M)[26+i]? =M[21+i]? :=λa b c d e M=>by
      rw[show 26+i=(21+i)+1+1+1+1+1 by omega];rfl
     rw[e2,e2,e1,e1]
   obtain⟨v,Z,k2⟩:=h3 j q G;have Y:q∈lnQ c l:=Bb G;exact⟨v,Z,(q.ch _ _ _ v k2 hk (λg V=>absurd V (uK q Y _ _ _))).1⟩
def headR:Code->Option Nat
 | .seq c _=>headR c
 | .region i _ _=>some i
 | _=>none
def restC(n:Nat):Code->Option Code
 | .seq c d=>if headR (.seq c d)=some n then some (.seq c d)else match restC n c with
  | some c'=>some c'
  | none=>restC n d
 | .region i o b=>if i=n then some (.region i o b)else none
 | _=>none
def restOf(n:Nat)(p:A0)(f:FuncId):Option Code:=(p.funcs[f]?).bind λfn=>fn.body.bind (restC n)
def look(i:Nat):List (Nat×Value)->Option Value
 | []=>none
 | (j,v)::l=>if j=i then some v else look i l
structure Kn(n:Nat)(l:List (Nat×Value))(a:Act):Prop where
 sz:a.tmps.size=n
 df:a.defers=[]
 at':∀i v,look i l=some v->a.tmps[i]? =some v
section
variable {n d i:Nat} {l l':List (Nat×Value)} {a:Act} {v u:Value}
def allK(a:Act):List (Nat×Value)->Prop
 | []=>True
 | (i,v)::l=>a.tmps[i]? =some v/\allK a l
theorem Kn.mk0(h1:a.tmps.size=n)(h2:a.defers=[])(h:allK a l):Kn n l a:=⟨h1,h2,λi v=>by
 induction l with
 | nil=>intro e;cases e
 | cons x l ih=>
  obtain⟨j,u⟩:=x;intro e;unfold look at e;split at e
  ·rename_i C;subst C;injection e with e;subst e;exact h.1
  ·exact ih h.2 e⟩
theorem Kn.ev(h:Kn n l a)(e:look i l=some v):a.eval (.tmp i)=v:=by
 have:=h.at' i v e;simp[Act.eval,this]
theorem Kn.getD(h:Kn n l a)(e:look i l=some v):a.tmps.getD i undef=v:=by
 have:=h.at' i v e;simp[this]
theorem Kn.put(h:Kn n l a)(G:d<n):Kn n ((d,v)::l) (a.put (some d) v):=by
 refine⟨by simp[AN,h.sz],h.df,λi u e=> ?_⟩;unfold look at e;split at e
 ·rename_i C;subst C;injection e with e;subst e;simp[AN,h.sz,G]
 ·rename_i C;have:=h.at' i u e;simp only[AN];rw[Array.getElem?_setIfInBounds_ne C];exact this
theorem Kn.sub(h:Kn n l a)(k:∀i v,look i l'=some v->look i l=some v):Kn n l' a:=⟨h.sz,h.df,λi v e=>h.at' i v (k i v e)⟩
def allL(l:List (Nat×Value)):List (Nat×Value)->Prop
 | []=>True
 | (i,v)::l'=>look i l=some v/\allL l l'
theorem xK{i:Nat}{v:Value}:∀ {l'},allL l l'->look i l'=some v->look i l=some v
 | [],_,e=>by cases e
 | (j,u)::l',h,e=>by
  unfold look at e;split at e
  ·rename_i C;subst C;injection e with e;subst e;exact h.1
  ·exact xK h.2 e
theorem Kn.cut(h:Kn n l a)(k:allL l l'):Kn n l' a:=h.sub λ_ _ e=>xK k e
end
section
variable {P:A0} {ops:Array Oper} {Q:Exit->Act->World->Prop} {md:Region.Mode} {S:World->Prop} {n d i fuel:Nat} {oi:Oper} {v:Value} {l:List (Nat×Value)} {listed:Array Bool} {a:Act} {w w':World} {rest:List Oper} {o:Oper}
theorem bD(G:Kn n l a)(hi:ops[i]? =some oi)(hs:E8 ops=true)(hf:Region.free md ops listed i=true)(hr:(BV md ops listed).contains i=true)
  (C:oi.dst=some d)(hn:d<n)(I:∀c a a' w,a'.defers=a.defers->Q (.panic c) a w->Q (.panic c) a' w)(K:oi.guard=none)(hy:∀a w,Kn n l a->S w->(execOp a.eval oi).run P w= .ok (.value v) w)(J:S w)
  (h:∀a',Kn n ((d,v)::l) a'->wpAnyH P md ops Q S fuel (listed.setIfInBounds i true) a' w):wpAnyH P md ops Q S (fuel+1) listed a w:=by
 refine BX (v:=v) hi hs hf hr (λc a w h=>I c (a.put oi.dst v) a w (by rw[C];rfl) h) (.inl ⟨wanted_none K,λw U=>hy a w G U⟩) J ?_;rw[C];exact h _ (G.put hn)
theorem dV(G:Kn n l a)(hi:ops[i]? =some oi)(hs:E8 ops=true)(hf:Region.free md ops listed i=true)(hr:(BV md ops listed).contains i=true)
  (C:oi.dst=some d)(hn:d<n)(I:∀c a a' w,a'.defers=a.defers->Q (.panic c) a w->Q (.panic c) a' w)(J:oi.guard=none)(hy:∀a w,Kn n l a->(execOp a.eval oi).run P w= .ok (.value v) w)
  (h:∀a',Kn n ((d,v)::l) a'->wpAny P md ops Q fuel (listed.setIfInBounds i true) a' w):wpAny P md ops Q (fuel+1) listed a w:=by
 refine wpAny_take (v:=v) hi hs hf hr (λc a w h=>I c (a.put oi.dst v) a w (by rw[C];rfl) h) (.inl ⟨wanted_none J,λw=>hy a w G⟩) ?_;rw[C];exact h _ (G.put hn)
theorem jE{K:Act->World->Prop}(J:Kn n l a)(hi:ops[i]? =some oi)(G:oi.dst=some d)(hn:d<n)(I:oi.guard=none)(hy:(execOp a.eval oi).run P w= .ok (.value v) w')
  (h:∀a',Kn n ((d,v)::l) a'->K a' w'):wpOp P ops Q i K a w:=C8 hi λU C=>by
 rw[if_pos (wanted_none I)];unfold Bn;rw[hy,El,G];exact C _ _ (h _ (J.put hn))
theorem fH(hr:BV md ops listed=[i])(h:wpOp P ops Q i (wpAny P md ops Q fuel (listed.setIfInBounds i true)) a w):wpAny P md ops Q (fuel+1) listed a w:=
 wpAny_all hr Ag λj C=>by
  obtain rfl:j=i:=by simpa using C
  exact h
theorem tf{j:Nat}(hr:BV md ops listed=[i,j])(h1:wpOp P ops Q i (wpAny P md ops Q fuel (listed.setIfInBounds i true)) a w)(h2:wpOp P ops Q j (wpAny P md ops Q fuel (listed.setIfInBounds j true)) a w):wpAny P md ops Q (fuel+1) listed a w:=
 wpAny_all hr Ag λk C=>by
  rcases A3.1 C with rfl | C
  ·exact h1
  ·obtain rfl:k=j:=by simpa using C
   exact h2
theorem xL{id:Nat}{a:Act}{w:World}(C:P.follows .mixedOrders=true)(h:∀ops' Q',ops'=ops->Q'=Q->wpAny P .any ops' Q' ops.size (Array.replicate ops.size false) a w.drew):(Dc id ops true).wp P Q a w:=wp_region_any C (h ops Q rfl rfl)
end
def evK(l:List (Nat×Value)):AZ->Option Value
 | .tmp i=>look i l
 | .const v=>some v
 | .global g=>some (.pointer (some ⟨g,0,none⟩))
 | .func f=>some (.func (.func f) #[] #[])
def zU(l:List (Nat×Value)):List AZ->Option (List Value)
 | []=>some []
 | x::xs=>(evK l x).bind λv=>(zU l xs).map (v:: ·)
section
variable {P:A0} {ops:Array Oper} {Q:Exit->Act->World->Prop} {n d e i j:Nat} {o oj:Oper} {v u vx vy:Value} {l:List (Nat×Value)} {a:Act} {w w':World} {rest:List Oper} {x y z:AZ} {b:Bool} {nx:Next}
theorem Kn.evx(h:Kn n l a)(e:evK l x=some v):a.eval x=v:=by
 cases x with
 | tmp i=>exact h.ev e
 | const c=>injection e
 | global g=>injection e
 | func f=>injection e
theorem Kn.args(h:Kn n l a):∀ {xs:List AZ} {vs:List Value},zU l xs=some vs->xs.map a.eval=vs
 | [],vs,e=>by injection e
 | x::xs,vs,e=>by
  unfold zU at e
  cases hx:evK l x with
  | none=>rw[hx]at e;cases e
  | some v=>
   cases hy:zU l xs with
   | none=>rw[hx,hy]at e;cases e
   | some us=>
    rw[hx,hy]at e;injection e with e;rw[Bu,h.evx hx,h.args hy];exact e
theorem bW{c:Code}(l:List (Nat×Value))(h:∀ {a'},Kn n l a'->c.wp P Q a' w)(h1:a.tmps.size=n:=by rfl)(h2:a.defers=[]:=by rfl)(h3:allK a l:=by repeat (first | exact trivial | refine⟨rfl,?_⟩)):c.wp P Q a w:=h (Kn.mk0 h1 h2 h3)
theorem Kn.ct{l':List (Nat×Value)}(h:Kn n l a)(k:allL l l':=by repeat (first | exact trivial | refine⟨rfl,?_⟩)):Kn n l' a:=h.cut k
theorem eX(h:o.guard=none):A7 o (yielded ops a.tmps)=true:=wanted_none h
theorem e8(I:Kn n l a)(h:o.guard=some (j,b))(G:ops[j]? =some oj)(C:oj.dst=some d)(hv:look d l=some (.bool b)):A7 o (yielded ops a.tmps)=true:=by
 have:=I.at' d _ hv;simp[A7,h,yielded,G,C,this]
theorem wanN{c:Bool}(I:Kn n l a)(h:o.guard=some (j,b))(G:ops[j]? =some oj)(C:oj.dst=some d)(hv:look d l=some (.bool c))(hn:(c==b)=false):A7 o (yielded ops a.tmps)=false:=by
 have:=I.at' d _ hv;simp only[A7,h,yielded,G,C,this,Em];simpa using hn
theorem wl(J:A7 o (yielded ops a.tmps)=true)(I:Kn n l a)(G:o.dst=some d)(hn:d<n)(hy:(execOp a.eval o).run P w= .ok (.value v) w')(h:∀a',Kn n ((d,v)::l) a'->wpList P ops Q rest a' w'):wpList P ops Q (o::rest) a w:=
 wpList_step λK C=>by
  rw[if_pos J];unfold Bn;rw[hy,El,G];exact C _ _ (h _ (I.put hn))
theorem wl0(J:A7 o (yielded ops a.tmps)=false)(I:Kn n l a)(G:o.dst=some d)(hn:d<n)(h:∀a',Kn n ((d,undef)::l) a'->wpList P ops Q rest a' w):wpList P ops Q (o::rest) a w:=
 wpList_step λK C=>by
  rw[if_neg (by rw[J];simp),G];exact C _ _ (h _ (I.put hn))
theorem wls(J:A7 o (yielded ops a.tmps)=true)(I:Kn n l a)(G:o.dst=none)(hy:(execOp a.eval o).run P w= .ok .skip w')(h:∀a',Kn n l a'->wpList P ops Q rest a' w'):wpList P ops Q (o::rest) a w:=
 wpList_step λK C=>by
  rw[if_pos J];unfold Bn;rw[hy,Oper.upon_skip,G];exact C _ _ (h _ I)
variable{R:Ending->World->Prop}{f:FuncId}
theorem wlc{args:Array Value}(V:A7 o (yielded ops a.tmps)=true)(J:Kn n l a)(I:o.dst=some d)(hn:d<n)(hy:(execOp a.eval o).run P w= .ok (.enter f args) w)(C:AH P f args w R)
  (h:∀e w',R e w'->∃v,e= .returned v/\∀a',Kn n ((d,v)::l) a'->wpList P ops Q rest a' w'):wpList P ops Q (o::rest) a w:=
 wpList_step λK G=>by
  rw[if_pos V];unfold Bn;rw[hy];refine C.mono (λe w' U=> ?_);obtain⟨v,rfl,h2⟩:=h e w' U;show K (a.put o.dst v) w';rw[I];exact G _ _ (h2 _ (J.put hn))
theorem wln(h:Q .normal a w):wpList P ops Q [] a w:=h
theorem fU(C:Kn n l a)(G:o.op= .move x)(I:evK l x=some v):(execOp a.eval o).run P w= .ok (.value v) w:=by
 unfold execOp;simp only[G];rw[C.evx I];rfl
theorem kR(C:Kn n l a)(G:o.op= .assign x)(I:evK l x=some v):(execOp a.eval o).run P w= .ok (.value v) w:=by
 unfold execOp;simp only[G];rw[C.evx I];rfl
theorem kx_ex{vs:Array Value}(C:Kn n l a)(G:o.op= .extract x i)(I:evK l x=some (.tuple vs))(hv:vs[i]? =some v):(execOp a.eval o).run P w= .ok (.value v) w:=by
 unfold execOp;simp only[G];rw[C.evx I];simp[Instr.extract,hv,AO]
theorem jF{p:Addr}(C:Kn n l a)(G:o.op= .nilCheck x)(I:evK l x=some (.pointer (some p))):(execOp a.eval o).run P w= .ok (.value (.pointer (some p))) w:=by
 unfold execOp;simp only[G];rw[C.evx I];rfl
theorem aa4(C:Kn n l a)(I:o.op= .pick z x y)(hz:evK l z=some (.bool b))(G:evK l (if b then x else y)=some v):(execOp a.eval o).run P w= .ok (.value v) w:=by
 unfold execOp;simp only[I];rw[C.evx hz];cases b<;>(simp only[Bool.false_eq_true,if_false,if_true]at G;have:=C.evx G;simp[asBool,AO,this])
variable{t:TypeId}
theorem aa5(C:Kn n l a)(G:o.op= .unOp .not t x)(I:evK l x=some (.bool b)):(execOp a.eval o).run P w= .ok (.value (.bool (!b))) w:=by
 unfold execOp;simp only[G];rw[C.evx I];simp[Op.unary,AO]
variable{op:BinOp}{s:TypeId}
theorem xM(C:Kn n l a)(G:o.op= .binOp op t x y s)(I:evK l x=some vx)(hy:evK l y=some vy)(hr:(do eqGuard op t x y vx vy;binOp op t vx vy:Sem Value).run P w= .ok v w):(execOp a.eval o).run P w= .ok (.value v) w:=by
 unfold execOp;simp only[G];rw[C.evx I,C.evx hy];simp only[AO]at hr⊢;rw[hr];rfl
theorem kx_cv(C:Kn n l a)(G:o.op= .convert t s x)(I:evK l x=some vx)(hr:(convert t s vx).run P w= .ok v w):(execOp a.eval o).run P w= .ok (.value v) w:=by
 unfold execOp;simp only[G];rw[C.evx I];simp only[AO,hr];rfl
theorem xN(C:Kn n l a)(G:o.op= .indexAddr t x y)(I:evK l x=some vx)(hy:evK l y=some vy)(hr:(DF t vx vy).run P w= .ok v w):(execOp a.eval o).run P w= .ok (.value v) w:=by
 unfold execOp;simp only[G];rw[C.evx I,C.evx hy];simp only[AO,hr];rfl
theorem xO(C:Kn n l a)(G:o.op= .fieldAddr t x i)(I:evK l x=some vx)(hr:(Ei t vx i).run P w= .ok v w):(execOp a.eval o).run P w= .ok (.value v) w:=by
 unfold execOp;simp only[G];rw[C.evx I];simp only[AO,hr];rfl
theorem jG(C:Kn n l a)(G:o.op= .load t x)(I:evK l x=some vx)(hr:(CN t vx).run P w= .ok v w):(execOp a.eval o).run P w= .ok (.value v) w:=by
 unfold execOp;simp only[G];rw[C.evx I];simp only[AO,hr];rfl
theorem tg(C:Kn n l a)(G:o.op= .store t x y)(I:evK l x=some vx)(hy:evK l y=some vy)(hr:(EH t vx vy).run P w= .ok () w'):(execOp a.eval o).run P w= .ok .skip w':=by
 unfold execOp;simp only[G];rw[C.evx I,C.evx hy];simp only[AO,hr];rfl
theorem tj(C:o.op= .alloc t)(hr:(Instr.alloc t true (.tuple #[])).run P w= .ok v w'):(execOp a.eval o).run P w= .ok (.value v) w':=by
 unfold execOp;simp only[C];simp only[AO,hr];rfl
theorem gA{c:Call}(G:Kn n l a)(I:o.op= .call c)(hc:c.callee= .value (.func f))(J:zU l c.args.toList=some vs)(C:∀args w,(callFunc f args).run P w= .ok (.enter f args) w):(execOp a.eval o).run P w= .ok (.enter f vs.toArray) w:=by
 have h1:c.args.map a.eval=vs.toArray:=by rw[<-G.args J,<-Array.toList_map,Array.toArray_toList]
 have h2:a.eval (.func f)= .func (.func f) #[] #[]:=rfl;unfold execOp;simp only[I,resolve,hc,h1,h2,Deferred.ofValue,AO,BC,Da,invoke];simpa using C vs.toArray w
theorem rj(C:Kn n l a)(G:o.op= .call {callee:=.builtin .append,args:=#[x,y],argTypes:=#[t,t]})(I:evK l x=some vx)(hy:evK l y=some vy)(hr:(Ca #[t,t] o.type #[vx,vy]).run P w= .ok v w'):(execOp a.eval o).run P w= .ok (.value v) w':=by
 have h1:=C.evx I;have h2:=C.evx hy;unfold execOp;simp only[G,resolve,invoke,builtin,AO,BC,Da,C1,Bu,BZ,h1,h2,hr]
theorem wS(G:Kn n l a)(h:∀ {a'},Kn n ((d,v)::l) a'->wpList P ops Q rest a' w)(C:o.dst=some d:=by rfl)(hn:d<n:=by decide)(I:A7 o (yielded ops a.tmps)=true:=by first | exact eX rfl | exact e8 (by assumption) rfl rfl rfl rfl)
  (hy:(execOp a.eval o).run P w= .ok (.value v) w:=by first | exact fU (by assumption) rfl rfl | exact kR (by assumption) rfl rfl | exact jF (by assumption) rfl rfl | exact kx_ex (by assumption) rfl rfl rfl | exact aa5 (by assumption) rfl rfl | exact aa4 (by assumption) rfl rfl rfl):wpList P ops Q (o::rest) a w:=wl I G C hn hy λ_=>h
theorem wZ(hk:Kn n l a)(h:∀ {a'},Kn n ((d,undef)::l) a'->wpList P ops Q rest a' w)(hd:o.dst=some d:=by rfl)(hn:d<n:=by decide)(hw:A7 o (yielded ops a.tmps)=false:=by first | exact wanN (by assumption) rfl rfl rfl rfl rfl | exact wanU (by assumption) rfl rfl rfl rfl):wpList P ops Q (o::rest) a w:=wl0 hw hk hd hn λ_=>h
theorem wF(C:Kn n l a)(v:Value)(h:∀ {a'},Kn n ((d,v)::l) a'->wpList P ops Q rest a' w)(G:o.dst=some d:=by rfl)(hn:d<n:=by decide)(I:o.op= .fieldAddr t x i:=by rfl)(K:evK l x=some vx:=by rfl)(hr:(Ei t vx i).run P w= .ok v w:=by go_simp)
  (J:A7 o (yielded ops a.tmps)=true:=by first | exact eX rfl | exact e8 (by assumption) rfl rfl rfl rfl):wpList P ops Q (o::rest) a w:=wl J C G hn (xO C I K hr) λ_=>h
theorem wI(C:Kn n l a)(v:Value)(h:∀ {a'},Kn n ((d,v)::l) a'->wpList P ops Q rest a' w)(G:o.dst=some d:=by rfl)(hn:d<n:=by decide)(I:o.op= .indexAddr t x y:=by rfl)(K:evK l x=some vx:=by rfl)(hy:evK l y=some vy:=by rfl)(hr:(DF t vx vy).run P w= .ok v w:=by go_simp)
  (J:A7 o (yielded ops a.tmps)=true:=by first | exact eX rfl | exact e8 (by assumption) rfl rfl rfl rfl):wpList P ops Q (o::rest) a w:=wl J C G hn (xN C I K hy hr) λ_=>h
theorem wL(C:Kn n l a)(v:Value)(h:∀ {a'},Kn n ((d,v)::l) a'->wpList P ops Q rest a' w)(G:o.dst=some d:=by rfl)(hn:d<n:=by decide)(I:o.op= .load t x:=by rfl)(K:evK l x=some vx:=by rfl)(hr:(CN t vx).run P w= .ok v w:=by go_simp)
  (J:A7 o (yielded ops a.tmps)=true:=by first | exact eX rfl | exact e8 (by assumption) rfl rfl rfl rfl):wpList P ops Q (o::rest) a w:=wl J C G hn (jG C I K hr) λ_=>h
theorem wB(C:Kn n l a)(v:Value)(h:∀ {a'},Kn n ((d,v)::l) a'->wpList P ops Q rest a' w)(G:o.dst=some d:=by rfl)(hn:d<n:=by decide)(I:o.op= .binOp op t x y s:=by rfl)(K:evK l x=some vx:=by rfl)(hy:evK l y=some vy:=by rfl)(hr:(do eqGuard op t x y vx vy;binOp op t vx vy:Sem Value).run P w= .ok v w:=by go_simp)
  (J:A7 o (yielded ops a.tmps)=true:=by first | exact eX rfl | exact e8 (by assumption) rfl rfl rfl rfl):wpList P ops Q (o::rest) a w:=wl J C G hn (xM C I K hy hr) λ_=>h
theorem wV(C:Kn n l a)(v:Value)(h:∀ {a'},Kn n ((d,v)::l) a'->wpList P ops Q rest a' w)(G:o.dst=some d:=by rfl)(hn:d<n:=by decide)(I:o.op= .convert t s x:=by rfl)(K:evK l x=some vx:=by rfl)(hr:(convert t s vx).run P w= .ok v w:=by go_simp)
  (J:A7 o (yielded ops a.tmps)=true:=by first | exact eX rfl | exact e8 (by assumption) rfl rfl rfl rfl):wpList P ops Q (o::rest) a w:=wl J C G hn (kx_cv C I K hr) λ_=>h
theorem wT(hk:Kn n l a)(w':World)(h:∀ {a'},Kn n l a'->wpList P ops Q rest a' w')(hd:o.dst=none:=by rfl)(ho:o.op= .store t x y:=by rfl)(hx:evK l x=some vx:=by rfl)(hy:evK l y=some vy:=by rfl)(hr:(EH t vx vy).run P w= .ok () w':=by go_simp)
  (hw:A7 o (yielded ops a.tmps)=true:=by first | exact eX rfl | exact e8 (by assumption) rfl rfl rfl rfl):wpList P ops Q (o::rest) a w:=wls hw hk hd (tg hk ho hx hy hr) λ_=>h
theorem wW(G:Kn n l a)(v:Value)(w':World)(hy:(execOp a.eval o).run P w= .ok (.value v) w')(h:∀ {a'},Kn n ((d,v)::l) a'->wpList P ops Q rest a' w')(C:o.dst=some d:=by rfl)(hn:d<n:=by decide)(I:A7 o (yielded ops a.tmps)=true:=by first | exact eX rfl | exact e8 (by assumption) rfl rfl rfl rfl):wpList P ops Q (o::rest) a w:=wl I G C hn hy λ_=>h
theorem wY(G:Kn n l a)(v:Value)(hy:(execOp a.eval o).run P w= .ok (.value v) w)(h:∀ {a'},Kn n ((d,v)::l) a'->wpList P ops Q rest a' w)(C:o.dst=some d:=by rfl)(hn:d<n:=by decide)(I:A7 o (yielded ops a.tmps)=true:=by first | exact eX rfl | exact e8 (by assumption) rfl rfl rfl rfl):wpList P ops Q (o::rest) a w:=wl I G C hn hy λ_=>h
theorem wC{c:Call}(C:Kn n l a)(J:∀args w,(callFunc f args).run P w= .ok (.enter f args) w)(G:AH P f vs.toArray w R)(h:∀ {e w'},R e w'->∃v,e= .returned v/\∀a',Kn n ((d,v)::l) a'->wpList P ops Q rest a' w')(I:o.dst=some d:=by rfl)(hn:d<n:=by decide)
  (K:o.op= .call c:=by rfl)(hc:c.callee= .value (.func f):=by rfl)(V:zU l c.args.toList=some vs:=by rfl)(U:A7 o (yielded ops a.tmps)=true:=by first | exact eX rfl | exact e8 (by assumption) rfl rfl rfl rfl):wpList P ops Q (o::rest) a w:=wlc U C I hn (gA C K hc V J) G λ_ _=>h
theorem oq(C:Kn n l a)(G:o.op= .buildSlice t 1 #[(0,x)])(I:evK l x=some vx)(hr:(Instr.buildSlice t 1 #[(0,vx)]).run P w= .ok v w'):(execOp a.eval o).run P w= .ok (.value v) w':=by
 unfold execOp;simp only[G,C1,Bu,BZ];rw[C.evx I];simp only[AO,hr];rfl
variable{K:Act->World->Prop}
theorem wpOp_c{args:Array Value}(V:Kn n l a)(hi:ops[i]? =some o)(U:o.guard=none)(J:o.dst=some d)(hn:d<n)(hy:(execOp a.eval o).run P w= .ok (.enter f args) w)(G:AH P f args w R)
  (h:∀e w',R e w'->∃v,e= .returned v/\∀a',Kn n ((d,v)::l) a'->K a' w'):wpOp P ops Q i K a w:=C8 hi λC I=>by
 rw[if_pos (wanted_none U)];unfold Bn;rw[hy];refine G.mono (λe w' Y=> ?_);obtain⟨v,rfl,h2⟩:=h e w' Y;show C (a.put o.dst v) w';rw[J];exact I _ _ (h2 _ (V.put hn))
theorem wpOp_s(J:Kn n l a)(hi:ops[i]? =some o)(G:o.dst=none)(I:o.guard=none)(hy:(execOp a.eval o).run P w= .ok .skip w')(h:∀a',Kn n l a'->K a' w'):wpOp P ops Q i K a w:=C8 hi λU C=>by
 rw[if_pos (wanted_none I)];unfold Bn;rw[hy,Oper.upon_skip,G];exact C _ _ (h _ J)
theorem wanU(I:Kn n l a)(h:o.guard=some (j,b))(G:ops[j]? =some oj)(C:oj.dst=some d)(hv:look d l=some undef):A7 o (yielded ops a.tmps)=false:=by
 have:=I.at' d _ hv;simp only[A7,h,yielded,G,C,this,Em];rfl
variable{C:World->Prop}{K:Act->Prop}
theorem wq(J:A7 o (yielded ops a.tmps)=true)(I:Kn n l a)(G:o.dst=some d)(hn:d<n)(v:Value)(hy:∀w,C w->(execOp a.eval o).run P w= .ok (.value v) w)(h:∀a',Kn n ((d,v)::l) a'->wpQuiet P ops C K rest a'):wpQuiet P ops C K (o::rest) a:=by
 unfold wpQuiet;rw[if_pos J];refine⟨v,λw hc=>by unfold Oper.quietAt;rw[hy w hc];exact Aj,?_⟩;rw[G];exact h _ (I.put hn)
theorem wq0(J:A7 o (yielded ops a.tmps)=false)(I:Kn n l a)(G:o.dst=some d)(hn:d<n)(h:∀a',Kn n ((d,undef)::l) a'->wpQuiet P ops C K rest a'):wpQuiet P ops C K (o::rest) a:=by
 unfold wpQuiet;rw[if_neg (by rw[J];simp),G];exact h _ (I.put hn)
theorem qSk(J:Kn n l a)(h:∀ {a'},Kn n ((d,v)::l) a'->wpQuiet P ops C K rest a')(I:o.dst=some d:=by rfl)(hn:d<n:=by decide)(G:A7 o (yielded ops a.tmps)=true:=by first | exact eX rfl | exact e8 (by assumption) rfl rfl rfl rfl)
  (hy:∀w,C w->(execOp a.eval o).run P w= .ok (.value v) w:=by intro w G;first | exact fU (by assumption) rfl rfl | exact kR (by assumption) rfl rfl | exact jF (by assumption) rfl rfl | exact aa5 (by assumption) rfl rfl | exact aa4 (by assumption) rfl rfl rfl):wpQuiet P ops C K (o::rest) a:=wq G J I hn v hy λ_=>h
theorem qZk(hk:Kn n l a)(h:∀ {a'},Kn n ((d,undef)::l) a'->wpQuiet P ops C K rest a')(hd:o.dst=some d:=by rfl)(hn:d<n:=by decide)(hw:A7 o (yielded ops a.tmps)=false:=by first | exact wanN (by assumption) rfl rfl rfl rfl rfl | exact wanU (by assumption) rfl rfl rfl rfl):wpQuiet P ops C K (o::rest) a:=wq0 hw hk hd hn λ_=>h
variable{w0:World}
theorem qF(C:Kn n l a)(v:Value)(h:∀ {a'},Kn n ((d,v)::l) a'->wpQuiet P ops (λw=>∃n,w=w0.drewN n) K rest a')(G:o.dst=some d:=by rfl)(hn:d<n:=by decide)(I:o.op= .fieldAddr t x i:=by rfl)(U:evK l x=some vx:=by rfl)(hr:∀w,(Ei t vx i).run P w= .ok v w:=by intro w;go_simp)
  (J:A7 o (yielded ops a.tmps)=true:=by first | exact eX rfl | exact e8 (by assumption) rfl rfl rfl rfl):wpQuiet P ops (λw=>∃n,w=w0.drewN n) K (o::rest) a:=wq J C G hn v (λw _=>xO C I U (hr w)) λ_=>h
theorem qI(C:Kn n l a)(v:Value)(h:∀ {a'},Kn n ((d,v)::l) a'->wpQuiet P ops (λw=>∃n,w=w0.drewN n) K rest a')(G:o.dst=some d:=by rfl)(hn:d<n:=by decide)(I:o.op= .indexAddr t x y:=by rfl)(U:evK l x=some vx:=by rfl)(hy:evK l y=some vy:=by rfl)(hr:∀w,(DF t vx vy).run P w= .ok v w:=by intro w;go_simp)
  (J:A7 o (yielded ops a.tmps)=true:=by first | exact eX rfl | exact e8 (by assumption) rfl rfl rfl rfl):wpQuiet P ops (λw=>∃n,w=w0.drewN n) K (o::rest) a:=wq J C G hn v (λw _=>xN C I U hy (hr w)) λ_=>h
theorem qL(G:Kn n l a)(v:Value)(h:∀ {a'},Kn n ((d,v)::l) a'->wpQuiet P ops (λw=>∃n,w=w0.drewN n) K rest a')(I:o.dst=some d:=by rfl)(hn:d<n:=by decide)(J:o.op= .load t x:=by rfl)(V:evK l x=some vx:=by rfl)(hr:∀C,(CN t vx).run P (w0.drewN C)= .ok v (w0.drewN C):=by intro C;go_simp)
  (U:A7 o (yielded ops a.tmps)=true:=by first | exact eX rfl | exact e8 (by assumption) rfl rfl rfl rfl):wpQuiet P ops (λw=>∃n,w=w0.drewN n) K (o::rest) a:=wq U G I hn v (λw hc=>jG G J V (by obtain⟨C,rfl⟩:=hc;exact hr C)) λ_=>h
theorem qB(C:Kn n l a)(v:Value)(h:∀ {a'},Kn n ((d,v)::l) a'->wpQuiet P ops (λw=>∃n,w=w0.drewN n) K rest a')(G:o.dst=some d:=by rfl)(hn:d<n:=by decide)(I:o.op= .binOp op t x y s:=by rfl)(U:evK l x=some vx:=by rfl)(hy:evK l y=some vy:=by rfl)(hr:∀w,(do eqGuard op t x y vx vy;binOp op t vx vy:Sem Value).run P w= .ok v w:=by intro w;go_simp)
  (J:A7 o (yielded ops a.tmps)=true:=by first | exact eX rfl | exact e8 (by assumption) rfl rfl rfl rfl):wpQuiet P ops (λw=>∃n,w=w0.drewN n) K (o::rest) a:=wq J C G hn v (λw _=>xM C I U hy (hr w)) λ_=>h
theorem wqn(h:K a):wpQuiet P ops C K [] a:=h
variable{id:Nat}
theorem uT(G:P.follows .mixedOrders=true)(hB:Region.lexB .any ops=true)(h:wpQuiet P ops (λw'=>∃n,w'=w.drewN n) (λa'=>∀w',(∃n,w'=w.drewN n)->Q .normal a' w') ops.toList a):(Dc id ops true).wp P Q a w:=
 wp_region_quiet (C:=λw'=>∃n,w'=w.drewN n) G hB ⟨1,rfl⟩ h
variable{K:Act->World->Prop}
theorem oper_then{K1 K2:Act->World->Prop}(h:∀a w,K1 a w->K2 a w)(hh:o.wp P a w K1 (Exit.then K Q)):o.wp P a w K2 Q:=by
 unfold Bn at *;generalize (execOp a.eval o).run P w=r at *
 cases r with
 | ok n w'=>
  cases n<;>simp only[Oper.upon]at hh⊢ <;>
   first
    | exact h _ _ hh
    | exact Calls.mono hh (λe w'' he=>by cases e<;>first | exact h _ _ he | exact he)
    | exact Rows.mono hh (λ_ _ he=>h _ _ he)
 | halt x w'=>cases x<;>simp only[Oper.upon]at hh⊢ <;>exact hh
theorem wl_app(k:Nat){xs:List Oper}(K:Act->World->Prop)(C:∀a w,K a w->wpList P ops Q (xs.drop k) a w)(h:wpList P ops (Exit.then K Q) (xs.take k) a w):wpList P ops Q xs a w:=by
 induction k generalizing xs a w with
 | zero=>exact C a w h
 | succ k ih=>
  cases xs with
  | nil=>exact C a w h
  | cons o xs=>
   rw[List.take_succ_cons]at h;unfold wpList at h⊢;split
   ·rename_i G;rw[if_pos G]at h;rcases h with h | ⟨h1,h2⟩
    ·exact .inl (oper_then (λa w h2=>ih C h2) h)
    ·exact .inr ⟨h1,h2⟩
   ·rename_i G;rw[if_neg G]at h;exact ih C h
theorem jH{S:World->Prop}{md:Region.Mode}{fuel:Nat}{listed:Array Bool}{args:Array Value}(V:Kn n l a)(hr:BV md ops listed=[i])(hi:ops[i]? =some o)(K:o.guard=none)(J:o.dst=some d)(hn:d<n)(hy:(execOp a.eval o).run P w= .ok (.enter f args) w)(I:AH P f args w R)
  (h:∀e w',R e w'->∃v,e= .returned v/\S w'/\∀a',Kn n ((d,v)::l) a'->wpAnyH P md ops Q S fuel (listed.setIfInBounds i true) a' w'):wpAnyH P md ops Q S (fuel+1) listed a w:=
 wpAnyH_all hr Ag λj U=>by
  obtain rfl:j=i:=by simpa using U
  refine wpOp_c V hi K J hn hy I (λe w' hr=> ?_);obtain⟨v,G,hs,h2⟩:=h e w' hr;exact⟨v,G,λa' C=>⟨hs,h2 a' C⟩⟩
theorem thn(h:K a w):Exit.then K Q .normal a w:=h
theorem ck(h:Q .ret a w):Exit.then K Q .ret a w:=h
theorem cN(h:Q .ret a w):D4 id Q .ret a w:=h
theorem thx(h:Q (.exit id) a w):Exit.then K Q (.exit id) a w:=h
theorem ibx(h:Q .normal a w):D4 id Q (.exit id) a w:=by simp only[D4,if_true];exact h
theorem ibn(h:Q .normal a w):D4 id Q .normal a w:=h
theorem wp_bl{c y:Code}(I:Act->World->Prop)(μ:Act->World->Nat)(h0:I a w)(round:∀a w,I a w->c.wp P (Exit.then (λa' w'=>I a' w'/\μ a' w'<μ a w) (D4 id (Exit.then (y.wp P Q) Q))) a w):((Code.block id (Code.loop c)).seq y).wp P Q a w:=wp_seq (wp_block (wp_loop I μ h0 round))
theorem l9{c:Code}(I:Act->World->Prop)(μ:Act->World->Nat)(h0:I a w)(round:∀a w,I a w->c.wp P (Exit.then (λa' w'=>I a' w'/\μ a' w'<μ a w) (D4 id Q)) a w):(Code.block id (Code.loop c)).wp P Q a w:=wp_block (wp_loop I μ h0 round)
theorem aO{y:Code}(h:wpList P ops (Exit.then (y.wp P Q) Q) ops.toList a w):((Dc id ops false).seq y).wp P Q a w:=wp_seq (CC h)
theorem wle{y:Code}(h:y.wp P Q a w):wpList P ops (Exit.then (y.wp P Q) Q) [] a w:=h
theorem bu{c:AZ}{x y:Code}(C:Kn n l a)(hc:evK l c=some (.bool true))(h:x.wp P Q a w):(Code.cond c x y).wp P Q a w:=wp_cond_true (C.evx hc) h
theorem aX{c:AZ}{x y:Code}(C:Kn n l a)(hc:evK l c=some (.bool false))(h:y.wp P Q a w):(Code.cond c x y).wp P Q a w:=wp_cond_false (C.evx hc) h
theorem bC(h:wpList P ops Q ops.toList a w):(Dc id ops false).wp P Q a w:=CC h
end
variable{x y:Int}{X Y:AZ}
theorem rk{z:Int}(h:z=x+y)(h1: -9223372036854775808<=z)(h2:z<9223372036854775808):(do eqGuard .add 3 X Y (.int .i64 x) (.int .i64 y);binOp .add 3 (.int .i64 x) (.int .i64 y):Sem Value).run AE w= .ok (.int .i64 z) w:=by
 have e:Bd.wrap (x+y)=z:=by rw[BQ];omega
 clear h h1 h2;go_simp
theorem fV{z:Int}(h:z=x - y)(h1: -9223372036854775808<=z)(h2:z<9223372036854775808):(do eqGuard .sub 3 X Y (.int .i64 x) (.int .i64 y);binOp .sub 3 (.int .i64 x) (.int .i64 y):Sem Value).run AE w= .ok (.int .i64 z) w:=by
 have e:Bd.wrap (x - y)=z:=by rw[BQ];omega
 clear h h1 h2;go_simp
variable{b:Bool}
theorem zV(h:decide (x<y)=b):(do eqGuard .lss 3 X Y (.int .i64 x) (.int .i64 y);binOp .lss 3 (.int .i64 x) (.int .i64 y):Sem Value).run AE w= .ok (.bool b) w:=by
 rw[<-h];clear h;go_simp
theorem rl(h:decide (y<x)=b):(do eqGuard .gtr 3 X Y (.int .i64 x) (.int .i64 y);binOp .gtr 3 (.int .i64 x) (.int .i64 y):Sem Value).run AE w= .ok (.bool b) w:=by
 rw[<-h];clear h;go_simp
theorem rn(h:decide (x<=y)=b):(do eqGuard .leq 3 X Y (.int .i64 x) (.int .i64 y);binOp .leq 3 (.int .i64 x) (.int .i64 y):Sem Value).run AE w= .ok (.bool b) w:=by
 rw[<-h];clear h;go_simp
theorem bi_eql(h:(x==y)=b):(do eqGuard .eql 3 X Y (.int .i64 x) (.int .i64 y);binOp .eql 3 (.int .i64 x) (.int .i64 y):Sem Value).run AE w= .ok (.bool b) w:=by
 rw[<-h];clear h;go_simp
theorem bi_neq(h:(x !=y)=b):(do eqGuard .neq 3 X Y (.int .i64 x) (.int .i64 y);binOp .neq 3 (.int .i64 x) (.int .i64 y):Sem Value).run AE w= .ok (.bool b) w:=by
 rw[<-h];clear h;go_simp
end Go.Proofs.YtggfmklppkioeaaGreat
