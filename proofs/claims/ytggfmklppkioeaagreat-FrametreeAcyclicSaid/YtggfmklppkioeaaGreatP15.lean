/- Names of frames. Trees of frames: Attach, where it is refused. Trees of frames: a link more in memory. Trees of frames: Attach, where it does. Trees of frames: Attach. What is true of a tree depends on the links of each child only. Trees of frames: a track changes in memory. Whole numbers of small kinds: rests, conversions. Poses of steps; copies of poses. What arguments of the type []api.Stamped are: rows of stamps. -/
import Derived.Test.YtggfmklppkioeaaGreatP14
import Derived.Deep.AppendLies
import Derived.Deep.RegionHeld3
import Derived.WalkKit
import Derived.ProofKit
import Derived.OpenShut
import Derived.ShutString
import Derived.ChangeOld
import Derived.Below
import Derived.Test.YtggfmklppkioeaaGreatRows
import Derived.SizedLaws
import Derived.Deep.Strs
import Derived.Deep.Slices
namespace Go.Proofs.YtggfmklppkioeaaGreat
set_option linter.unusedSimpArgs false
set_option linter.unusedVariables false
set_option maxRecDepth 100000
open Go.RowKit
/-- A letter. -/
def oP (c:UInt8):Prop:=(97≤c.toNat∧c.toNat≤122)∨(65≤c.toNat∧c.toNat≤90)
theorem aao {w:World} (n:Int) (h1:97≤n) (h2:n≤122):Calls Tryz.prog 183 #[.int .u8 n] w fun e w'=>e= .returned (.int .i64 3)∧w'=w:=by
 have a1:(n==32)=false:=beq_eq_false_iff_ne.2 (by omega)
 have a2:(n==9)=false:=beq_eq_false_iff_ne.2 (by omega)
 have a3:(n==10)=false:=beq_eq_false_iff_ne.2 (by omega)
 have a4:(n==35)=false:=beq_eq_false_iff_ne.2 (by omega)
 go_enter Tryz.func183,Tryz.ntmps183
 go_wp2
 go_ret
 exact⟨rfl,rfl⟩
theorem aap {w:World} (n:Int) (h1:65≤n) (h2:n≤90):Calls Tryz.prog 183 #[.int .u8 n] w fun e w'=>e= .returned (.int .i64 3)∧w'=w:=by
 have a1:(n==32)=false:=beq_eq_false_iff_ne.2 (by omega)
 have a2:(n==9)=false:=beq_eq_false_iff_ne.2 (by omega)
 have a3:(n==10)=false:=beq_eq_false_iff_ne.2 (by omega)
 have a4:(n==35)=false:=beq_eq_false_iff_ne.2 (by omega)
 have a5:decide (97≤n)=false:=decide_eq_false (by omega)
 go_enter Tryz.func183,Tryz.ntmps183
 go_wp2
 go_ret
 exact⟨rfl,rfl⟩
theorem aaq {w:World}:Calls Tryz.prog 183 #[.int .u8 49] w fun e w'=>e= .returned (.int .i64 4)∧w'=w:=by
 go_enter Tryz.func183,Tryz.ntmps183
 go_wp2
 go_ret
 exact⟨rfl,rfl⟩
theorem aar {w:World} (c:UInt8) (h:oP c):Calls Tryz.prog 183 #[.int .u8 (c.toNat:Int)] w fun e w'=>e= .returned (.int .i64 3)∧w'=w:=by
 rcases h with⟨h1,h2⟩ | ⟨h1,h2⟩
 ·exact aao _ (by omega) (by omega)
 ·exact aap _ (by omega) (by omega)
abbrev nm1 (c:UInt8):Nm:= {data:=#[c]}
abbrev pN:Nm:= {data:=#[49,120]}
theorem pO {w:World} (c:UInt8) (h:oP c):Calls Tryz.prog 123 #[.string (nm1 c)] w fun e w'=>e= .returned (.bool true)∧w'=w:=by
 have hc:=aar (w:=w) c h
 clear h
 go_enter Tryz.func123,Tryz.ntmps123
 go_wp2_with (go_at_call 183;refine hc.mono ?_;rintro e w' ⟨rfl,hw'⟩;obtain rfl:=hw'.symm)
 refine _root_.Go.wp_loop_rounds 2 ?_
 rw[rounds_succ]
 go_wp2_with (go_at_call 183;refine hc.mono ?_;rintro e w' ⟨rfl,hw'⟩;obtain rfl:=hw'.symm)
 rw[rounds_succ]
 go_wp2
 go_ret
 exact⟨rfl,rfl⟩
theorem xt {w:World}:Calls Tryz.prog 123 #[.string pN] w fun e w'=>e= .returned (.bool false)∧w'=w:=by
 have hc:=aaq (w:=w)
 go_enter Tryz.func123,Tryz.ntmps123
 go_wp2_with (go_at_call 183;refine hc.mono ?_;rintro e w' ⟨rfl,hw'⟩;obtain rfl:=hw'.symm)
 go_ret
 exact⟨rfl,rfl⟩
/-- Which names there are in the statements. -/
def Nam (c:Nm):Prop:=(∃d,oP d∧c=nm1 d)∨c=pN
def db (c:Nm):Prop:=∃d,oP d∧c=nm1 d
theorem bad_not:¬db pN:=by
 rintro⟨d,_,e⟩
 have:=congrArg ByteArray.size e
 have this:(2:Nat)=1:=this
 omega
theorem sH {w:World} (c:Nm) (h:Nam c):∃b:Bool,(b=true↔db c)∧Calls Tryz.prog 123 #[.string c] w fun e w'=>e= .returned (.bool b)∧w'=w:=by
 rcases h with⟨d,hd,rfl⟩ | rfl
 ·exact⟨true,⟨fun _=>⟨d,hd,rfl⟩,fun _=>rfl⟩,pO d hd⟩
 ·exact⟨false,⟨fun h=>(by cases h),fun h=>absurd h bad_not⟩,xt⟩
end Go.Proofs.YtggfmklppkioeaaGreat
namespace Go.Proofs.YtggfmklppkioeaaGreat
set_option linter.unusedSimpArgs false
set_option linter.unusedVariables false
set_option maxRecDepth 100000
open Go.RowKit
section
variable {w:World} {t m:Nat} {E:List Ch} {c p:Nm} {f:Int}
theorem uw (hc:Nam c) (hp:Nam p) (h:¬(db c∧db p)):Calls Tryz.prog 67 #[ptB t,.string c,.string p,.int .i64 f] w fun e w'=>e= .returned (.int .i64 5)∧w'=w:=by
 obtain⟨b1,h1,k1⟩:=sH (w:=w) c hc
 obtain⟨b2,h2,k2⟩:=sH (w:=w) p hp
 cases b1 with
 | false=>
  clear h1 h2 k2 h hc hp
  go_enter Tryz.func67,Tryz.ntmps67
  go_wp2_with (go_at_call 123;with_reducible refine k1.mono ?_;rintro e w' ⟨rfl,hw'⟩;obtain rfl:=hw'.symm)
  go_ret
  exact⟨rfl,rfl⟩
 | true=>
  cases b2 with
  | true=>exact absurd ⟨h1.1 rfl,h2.1 rfl⟩ h
  | false=>
   clear h1 h2 h hc hp
   go_enter Tryz.func67,Tryz.ntmps67
   go_wp2_with (first
    | (go_at_call 123;with_reducible refine k1.mono ?_;rintro e w' ⟨rfl,hw'⟩;obtain rfl:=hw'.symm)
    | (go_at_call 123;with_reducible refine k2.mono ?_;rintro e w' ⟨rfl,hw'⟩;obtain rfl:=hw'.symm))
   go_ret
   exact⟨rfl,rfl⟩
theorem jL (h:db c):Calls Tryz.prog 123 #[.string c] w fun e w'=>e= .returned (.bool true)∧w'=w:=by
 obtain⟨d,hd,rfl⟩:=h
 exact pO d hd
theorem ux (h:TM w t m E) (hc:db c) (hp:db p) (ht:f<0∨1099511627776<f∨(∃l,opL (lsE E c)=some l)∨∃l,(lsE E c).getLast? =some l∧f<l.x.un):
  Calls Tryz.prog 67 #[ptB t,.string c,.string p,.int .i64 f] w fun e w'=>e= .returned (.int .i64 17)∧w'=w:=by
 have k1:=jL (w:=w) hc
 have k2:=jL (w:=w) hp
 have h1:=h.cell
 have h2:=h.look c
 have hop:=ke h c
 clear hc hp
 by_cases c1:f<0
 ·clear ht hop h
  generalize lL E c=v at h2
  go_enter Tryz.func67,Tryz.ntmps67
  go_wp2_with (first
    | (go_at_call 123;with_reducible refine k1.mono ?_;rintro e w' ⟨rfl,hw'⟩;obtain rfl:=hw'.symm)
    | (go_at_call 123;with_reducible refine k2.mono ?_;rintro e w' ⟨rfl,hw'⟩;obtain rfl:=hw'.symm))
  go_ret
  exact⟨rfl,rfl⟩
 ·have c1':decide (f<0)=false:=decide_eq_false c1
  by_cases c2:1099511627776<f
  ·clear ht hop h c1
   generalize lL E c=v at h2
   go_enter Tryz.func67,Tryz.ntmps67
   go_wp2_with (first
    | (go_at_call 123;with_reducible refine k1.mono ?_;rintro e w' ⟨rfl,hw'⟩;obtain rfl:=hw'.symm)
    | (go_at_call 123;with_reducible refine k2.mono ?_;rintro e w' ⟨rfl,hw'⟩;obtain rfl:=hw'.symm))
   go_ret
   exact⟨rfl,rfl⟩
  ·have c2':decide (1099511627776<f)=false:=decide_eq_false c2
   cases ho:opL (lsE E c)with
   | some l=>
    rw[ho]at hop
    change Calls _ _ _ _ (fun e w'=>e= .returned (ptB l.b)∧w'=w)at hop
    clear ht h c1 c2 ho
    generalize lL E c=v at h2
    generalize l.b=lb at hop
    go_enter Tryz.func67,Tryz.ntmps67
    go_wp2_with (first
     | (go_at_call 123;with_reducible refine k1.mono ?_;rintro e w' ⟨rfl,hw'⟩;obtain rfl:=hw'.symm)
     | (go_at_call 123;with_reducible refine k2.mono ?_;rintro e w' ⟨rfl,hw'⟩;obtain rfl:=hw'.symm)
     | (go_at_call 124;refine hop.mono ?_;rintro e w' ⟨rfl,hw'⟩;obtain rfl:=hw'.symm))
    go_ret
    exact⟨rfl,rfl⟩
   | none=>
    rw[ho]at hop ht
    change Calls _ _ _ _ (fun e w'=>e= .returned (.pointer none)∧w'=w)at hop
    obtain⟨l,hl,hlt⟩:∃l,(lsE E c).getLast? =some l∧f<l.x.un:=by
     rcases ht with ht | ht | ⟨_,ht⟩ | ht
     ·exact absurd ht c1
     ·exact absurd ht c2
     ·cases ht
     ·exact ht
    unfold lsE at hl
    cases hch:chE E c with
    | none=>rw[hch]at hl;cases hl
    | some ch=>
     rw[hch]at hl
     have H:=h.chAt hch
     have hl:ch.ls.getLast? =some l:=hl
     obtain⟨N,hN⟩:∃N,N=ch.ls.length:=⟨_,rfl⟩
     have hpos:=List.length_pos_iff.2 H.ne
     rw[List.getLast?_eq_getElem?,←hN]at hl
     have hcl:=H.cell hl
     have hun:=(h.ln hch (List.mem_of_getElem? hl)).un
     have hm:(N:Int)≤9223372036854775807:=by have:=H.le;have:=H.cap;unfold maxLen at this;omega
     have hk:((N:Int) - 1).toNat=N - 1:=by omega
     have hk0:(0:Int)<N:=by omega
     have hk1:(1:Int)≤N:=by omega
     have hk2:(N:Int) - 1<N:=by omega
     replace h2:(Instr.lookup mpT (.map (some m)) (.string c) false).run Tryz.prog w= .ok (.slice (some ⟨ch.rb,0,none⟩) N ch.cap) w:=by rw[h2];unfold lL;rw[hch,hN];rfl
     clear ht h c1 c2 ho H hl hch hpos hN
     generalize ch.rb=rb at *
     generalize ch.cap=cap at *
     generalize l.b=lb at *
     generalize l.x.un=un at *
     go_enter Tryz.func67,Tryz.ntmps67
     go_wp2_with (first
      | (go_at_call 123;with_reducible refine k1.mono ?_;rintro e w' ⟨rfl,hw'⟩;obtain rfl:=hw'.symm)
      | (go_at_call 123;with_reducible refine k2.mono ?_;rintro e w' ⟨rfl,hw'⟩;obtain rfl:=hw'.symm)
      | (go_at_call 124;refine hop.mono ?_;rintro e w' ⟨rfl,hw'⟩;obtain rfl:=hw'.symm))
     go_ret
     exact⟨rfl,rfl⟩
theorem kf {l:List Nm} (h:l.Nodup) (c:Nm):(mm l c).Nodup:=by
 unfold mm
 split
 ·exact h
 ·rename_i hc
  exact List.nodup_append.2 ⟨h,by simp,fun a ha b hb=>by simp at hb;subst hb;exact fun e=>hc (e▸ha)⟩
theorem dedup:∀l:List Nm,∃l':List Nm,l'.Nodup∧∀x,x∈l'↔x∈l
 | []=>⟨[],List.nodup_nil,fun _=>Iff.rfl⟩
 | c::l=>by
  obtain⟨l',h1,h2⟩:=dedup l
  exact⟨mm l' c,kf h1 c,fun x=>by rw[gN,h2,List.mem_cons];exact or_comm⟩
theorem uy (R:Tr) (c p:Nm):∃n,bO (fun x=>bo R x∨x=c∨x=p) n:=by
 obtain⟨l,h1,h2⟩:=dedup (c::p::(R.flatMap fun q=>[q.1,q.2.par]))
 refine⟨l.length,l,h1,fun x=> ?_,rfl⟩
 rw[h2]
 simp only[List.mem_cons,List.mem_flatMap,bo,List.not_mem_nil,or_false]
 constructor
 ·rintro(h | h | ⟨q,h,h'⟩)
  ·exact .inr (.inl h)
  ·exact .inr (.inr h)
  ·exact .inl ⟨q,h,h'.imp Eq.symm Eq.symm⟩
 ·rintro(⟨q,h,h'⟩ | h | h)
  ·exact .inr (.inr ⟨q,h,h'.imp Eq.symm Eq.symm⟩)
  ·exact .inl h
  ·exact .inr (.inl h)
theorem dt.len {b:Nat} {l:List Nm} (h:dt w b l):(Builtin.len_ #[smT] 3 #[.map (some b)]).run Tryz.prog w= .ok (.int .i64 (l.length:Int)) w:=by
 obtain⟨es,clock,h1,_,h2⟩:=h
 have h3:es.size=l.length:=by have:=congrArg List.length h2;simpa using this
 simp[Builtin.len_,Sem.run_bind,run_underlying Tryz.underlying150,Result.andThen,Go.MapKept.run_getObj_map h1,goInt,h3]
theorem dt.size {b:Nat} {l:List Nm} (h:dt w b l):∃(es:Array MapEntry) (clock:Nat),w.heap[b]? =some (.map es clock)∧es.size=l.length:=by
 obtain⟨es,clock,h1,_,h2⟩:=h
 refine⟨es,clock,h1,?_⟩
 have:=congrArg List.length h2
 simpa using this
theorem di {w1:World} {b n0:Nat} {l:List Nm} (hS:dt w1 b l) (hl:∀x,x∈l↔q7 E x) (hn:bO (fun x=>bo (trE E) x∨x=c∨x=p) n0):
  ∃(w2 w3:World),(Instr.mapUpdate smT (.map (some b)) (.string c) (.bool true)).run Tryz.prog w1= .ok () w2∧(Instr.mapUpdate smT (.map (some b)) (.string p) (.bool true)).run Tryz.prog w2= .ok () w3∧(Builtin.len_ #[smT] 3 #[.map (some b)]).run Tryz.prog w3= .ok (.int .i64 (n0:Int)) w3∧Upd w1 b w3:=by
 obtain⟨w2,h1,h2,h3⟩:=hS.upd c
 obtain⟨w3,h4,h5,h6⟩:=h2.upd p
 have h8:=h5.len
 rw[bO.uniq ⟨_,kf (kf hS.nodup c) p,fun x=> ?_,rfl⟩ hn]at h8
 ·exact⟨w2,w3,h1,h4,h8,h3.trans h6⟩
 rw[gN,gN,hl,dI,or_assoc]
/-- The time is right. -/
structure TimeOk (E:List Ch) (c:Nm) (f:Int):Prop where
 lo:0≤f
 hi:f≤1099511627776
 op:opL (lsE E c)=none
 la:∀l,(lsE E c).getLast? =some l→l.x.un≤f
theorem mn {ch:Ch} (h:TM w t m E) (ht:TimeOk E c f) (hch:chE E c=some ch):∃(N rb cap lb:Nat) (un:Int),(Instr.lookup mpT (.map (some m)) (.string c) false).run Tryz.prog w= .ok (.slice (some ⟨rb,0,none⟩) N cap) w∧w.cell? ⟨rb,N - 1,none⟩=some (ptB lb)∧
  w.cell? ⟨lb,3,none⟩=some (.int .i64 un)∧N=(lsE E c).length∧(N:Int)≤9223372036854775807∧((N:Int) - 1).toNat=N - 1∧(0:Int)<N∧(1:Int)≤N∧(N:Int) - 1<N∧decide (f<un)=false:=by
 have H:=h.chAt hch
 have hpos:=List.length_pos_iff.2 H.ne
 have hl:lsE E c=ch.ls:=by unfold lsE;rw[hch];rfl
 obtain⟨l,hg⟩:∃l,ch.ls[ch.ls.length - 1]? =some l:=⟨_,List.getElem?_eq_getElem (by omega)⟩
 refine⟨ch.ls.length,ch.rb,ch.cap,l.b,l.x.un,by rw[h.look c];unfold lL;rw[hch];rfl,H.cell hg,(h.ln hch (List.mem_of_getElem? hg)).un,by rw[hl],by have:=H.le;have:=H.cap;unfold maxLen at this;omega,by omega,by omega,by omega,by omega,decide_eq_false ?_⟩
 have:=ht.la l (by rw[hl,List.getLast?_eq_getElem?];exact hg)
 omega
theorem uz {n0:Nat} (h:TM w t m E) (hc:db c) (hp:db p) (ht:TimeOk E c f) (hn:bO (fun x=>bo (trE E) x∨x=c∨x=p) n0) (h24:24<n0):
  Calls Tryz.prog 67 #[ptB t,.string c,.string p,.int .i64 f] w fun e w'=>e= .returned (.int .i64 15)∧Below w.heap.size w w':=by
 have k1:=jL (w:=w) hc
 have k2:=jL (w:=w) hp
 have h1:=h.cell
 have h2:=h.look c
 have hop:=ke h c
 have hkn:=i4 h
 have c1:decide (f<0)=false:=decide_eq_false (by have:=ht.lo;omega)
 have c2:decide (1099511627776<f)=false:=decide_eq_false (by have:=ht.hi;omega)
 rw[ht.op]at hop
 change Calls _ _ _ _ (fun e w'=>e= .returned (.pointer none)∧w'=w)at hop
 have HN:=Lib.hid hn
 have h24':(24:Int)<(n0:Int):=by omega
 cases hch:chE E c with
 | none=>
  replace h2:(Instr.lookup mpT (.map (some m)) (.string c) false).run Tryz.prog w= .ok (.slice none 0 0) w:=by rw[h2];unfold lL;rw[hch];rfl
  clear hc hp ht hn h24 h hch
  go_enter Tryz.func67,Tryz.ntmps67
  go_wp2_with (first
   | (go_at_call 123;with_reducible refine k1.mono ?_;rintro e w' ⟨rfl,hw'⟩;obtain rfl:=hw'.symm)
   | (go_at_call 123;with_reducible refine k2.mono ?_;rintro e w' ⟨rfl,hw'⟩;obtain rfl:=hw'.symm)
   | (go_at_call 124;refine hop.mono ?_;rintro e w' ⟨rfl,hw'⟩;obtain rfl:=hw'.symm)
   | (go_at_call 89;refine hkn.mono ?_;rintro e w1 ⟨b,l,rfl,hS,hbl,hl,hb⟩;obtain⟨w2,w3,hm1,hm2,hm3,hu3⟩:=di hS hl HN.out;have HB:=Lib.hid (hu3.below hb hbl);clear hb hl hS hbl hu3))
  go_ret
  exact⟨rfl,HB.out⟩
 | some ch=>
  obtain⟨N,rb,cap,lb,un,hl2,hcl,hun,hN,hm,hk,hk0,hk1,hk2,hu⟩:=mn h ht hch
  clear h2
  clear hc hp ht hn h24 h hch hN
  go_enter Tryz.func67,Tryz.ntmps67
  go_wp2_with (first
   | (go_at_call 123;with_reducible refine k1.mono ?_;rintro e w' ⟨rfl,hw'⟩;obtain rfl:=hw'.symm)
   | (go_at_call 123;with_reducible refine k2.mono ?_;rintro e w' ⟨rfl,hw'⟩;obtain rfl:=hw'.symm)
   | (go_at_call 124;refine hop.mono ?_;rintro e w' ⟨rfl,hw'⟩;obtain rfl:=hw'.symm)
   | (go_at_call 89;refine hkn.mono ?_;rintro e w1 ⟨b,l,rfl,hS,hbl,hl,hb⟩;obtain⟨w2,w3,hm1,hm2,hm3,hu3⟩:=di hS hl HN.out;have HB:=Lib.hid (hu3.below hb hbl);clear hb hl hS hbl hu3))
  go_ret
  exact⟨rfl,HB.out⟩
theorem uA {n0:Nat} (h:TM w t m E) (hc:db c) (hp:db p) (ht:TimeOk E c f) (hn:bO (fun x=>bo (trE E) x∨x=c∨x=p) n0) (h24:n0≤24) (h64:64≤(lsE E c).length):
  Calls Tryz.prog 67 #[ptB t,.string c,.string p,.int .i64 f] w fun e w'=>e= .returned (.int .i64 15)∧Below w.heap.size w w':=by
 have k1:=jL (w:=w) hc
 have k2:=jL (w:=w) hp
 have h1:=h.cell
 have h2:=h.look c
 have hop:=ke h c
 have hkn:=i4 h
 have c1:decide (f<0)=false:=decide_eq_false (by have:=ht.lo;omega)
 have c2:decide (1099511627776<f)=false:=decide_eq_false (by have:=ht.hi;omega)
 rw[ht.op]at hop
 change Calls _ _ _ _ (fun e w'=>e= .returned (.pointer none)∧w'=w)at hop
 have HN:=Lib.hid hn
 have h24':decide ((24:Int)<(n0:Int))=false:=decide_eq_false (by omega)
 cases hch:chE E c with
 | none=>unfold lsE at h64;rw[hch]at h64;exact absurd h64 (by simp)
 | some ch=>
  obtain⟨N,rb,cap,lb,un,hl2,hcl,hun,hN,hm,hk,hk0,hk1,hk2,hu⟩:=mn h ht hch
  clear h2
  have hN2:(64:Int)≤N:=by omega
  clear hc hp ht hn h24 h hch hN h64
  go_enter Tryz.func67,Tryz.ntmps67
  go_wp2_with (first
   | (go_at_call 123;with_reducible refine k1.mono ?_;rintro e w' ⟨rfl,hw'⟩;obtain rfl:=hw'.symm)
   | (go_at_call 123;with_reducible refine k2.mono ?_;rintro e w' ⟨rfl,hw'⟩;obtain rfl:=hw'.symm)
   | (go_at_call 124;refine hop.mono ?_;rintro e w' ⟨rfl,hw'⟩;obtain rfl:=hw'.symm)
   | (go_at_call 89;refine hkn.mono ?_;rintro e w1 ⟨b,l,rfl,hS,hbl,hl,hb⟩;obtain⟨w2,w3,hm1,hm2,hm3,hu3⟩:=di hS hl HN.out;have HB:=Lib.hid (hu3.below hb hbl);clear hb hl hS hbl hu3))
  go_ret
  exact⟨rfl,HB.out⟩
open Classical in
theorem xu {n0:Nat} (h:TM w t m E) (hE:TOk (trE E)) (hc:db c) (hp:db p) (ht:TimeOk E c f) (hn:bO (fun x=>bo (trE E) x∨x=c∨x=p) n0) (h24:n0≤24) (h64:(lsE E c).length<64) (hy:Cyc (trE E) c p f):
  Calls Tryz.prog 67 #[ptB t,.string c,.string p,.int .i64 f] w fun e w'=>e= .returned (.int .i64 19)∧Below w.heap.size w w':=by
 have k1:=jL (w:=w) hc
 have k2:=jL (w:=w) hp
 have h1:=h.cell
 have h2:=h.look c
 have hop:=ke h c
 have hkn:=i4 h
 have c1:decide (f<0)=false:=decide_eq_false (by have:=ht.lo;omega)
 have c2:decide (1099511627776<f)=false:=decide_eq_false (by have:=ht.hi;omega)
 rw[ht.op]at hop
 change Calls _ _ _ _ (fun e w'=>e= .returned (.pointer none)∧w'=w)at hop
 have HN:=Lib.hid hn
 have h24':decide ((24:Int)<(n0:Int))=false:=decide_eq_false (by omega)
 have HT:=Lib.hid h
 have HE:=Lib.hid hE
 have HY:=Lib.hid (decide_eq_true hy)
 cases hch:chE E c with
 | none=>
  replace h2:(Instr.lookup mpT (.map (some m)) (.string c) false).run Tryz.prog w= .ok (.slice none 0 0) w:=by rw[h2];unfold lL;rw[hch];rfl
  clear hc hp ht hn h24 h hch h64 hE hy
  go_enter Tryz.func67,Tryz.ntmps67
  go_wp2_with (first
   | (go_at_call 123;with_reducible refine k1.mono ?_;rintro e w' ⟨rfl,hw'⟩;obtain rfl:=hw'.symm)
   | (go_at_call 123;with_reducible refine k2.mono ?_;rintro e w' ⟨rfl,hw'⟩;obtain rfl:=hw'.symm)
   | (go_at_call 124;refine hop.mono ?_;rintro e w' ⟨rfl,hw'⟩;obtain rfl:=hw'.symm)
   | (go_at_call 89;refine hkn.mono ?_;rintro e w1 ⟨b,l,rfl,hS,hbl,hl,hb⟩;obtain⟨w2,w3,hm1,hm2,hm3,hu3⟩:=di hS hl HN.out;have HB:=Lib.hid (hu3.below hb hbl);have hcy:=np (HT.out.below HB.out) HE.out c p f;rw[HY.out]at hcy;clear hb hl hS hbl hu3)
   | (go_at_call 125;refine hcy.mono ?_;rintro e w4 ⟨rfl,hb4⟩;have HB4:=Lib.hid hb4;clear hb4))
  go_ret
  exact⟨rfl,HB.out.trans (HB4.out.mono HB.out.size)⟩
 | some ch=>
  obtain⟨N,rb,cap,lb,un,hl2,hcl,hun,hN,hm,hk,hk0,hk1,hk2,hu⟩:=mn h ht hch
  clear h2
  have hN2:decide ((64:Int)≤N)=false:=decide_eq_false (by omega)
  clear hc hp ht hn h24 h hch h64 hE hy hN
  go_enter Tryz.func67,Tryz.ntmps67
  go_wp2_with (first
   | (go_at_call 123;with_reducible refine k1.mono ?_;rintro e w' ⟨rfl,hw'⟩;obtain rfl:=hw'.symm)
   | (go_at_call 123;with_reducible refine k2.mono ?_;rintro e w' ⟨rfl,hw'⟩;obtain rfl:=hw'.symm)
   | (go_at_call 124;refine hop.mono ?_;rintro e w' ⟨rfl,hw'⟩;obtain rfl:=hw'.symm)
   | (go_at_call 89;refine hkn.mono ?_;rintro e w1 ⟨b,l,rfl,hS,hbl,hl,hb⟩;obtain⟨w2,w3,hm1,hm2,hm3,hu3⟩:=di hS hl HN.out;have HB:=Lib.hid (hu3.below hb hbl);have hcy:=np (HT.out.below HB.out) HE.out c p f;rw[HY.out]at hcy;clear hb hl hS hbl hu3)
   | (go_at_call 125;refine hcy.mono ?_;rintro e w4 ⟨rfl,hb4⟩;have HB4:=Lib.hid hb4;clear hb4))
  go_ret
  exact⟨rfl,HB.out.trans (HB4.out.mono HB.out.size)⟩
end
end Go.Proofs.YtggfmklppkioeaaGreat
namespace Go.Proofs.YtggfmklppkioeaaGreat
set_option linter.unusedSimpArgs false
set_option linter.unusedVariables false
set_option maxRecDepth 100000
open Go.RowKit
def cA (c p:Nm) (f:Int) (g:Nat):Array Value:=#[.string c,.string p,.int .i64 f,.int .i64 (-1),.bool false,.bool false,.slice none 0 0,.slice none 0 0,.bool false,.slice none 0 0,.slice none 0 0,.bool false,.slice none 0 0,.slice none 0 0,.bool false,.slice none 0 0,.slice none 0 0,.bool false,.slice none 0 0,.slice none 0 0,.bool false,.slice none 0 0,.slice none 0 0,.bool false,.slice none 0 0,.slice none 0 0,ptB g]
def xw (w:World):List Vp→List Value→Prop
 | [],[]=>True
 | q::qs,v::vs=>q.p w v∧xw w qs vs
 | _,_=>False
theorem xw.get {w:World}:∀ {qs:List Vp} {vs:List Value},xw w qs vs→vs.length=qs.length∧∀(j:Nat) (q:Vp),qs[j]? =some q→∃u,vs[j]? =some u∧q.p w u
 | [],[],_=>⟨rfl,fun j q h=>by simp at h⟩
 | q::qs,v::vs,h=>by
  obtain⟨h1,h2⟩:=h.2.get
  refine⟨by simp[h1],fun j q' hq=> ?_⟩
  cases j with
  | zero=>simp at hq;subst hq;exact⟨v,rfl,h.1⟩
  | succ j=>simpa using h2 j q' (by simpa using hq)
 | [],_::_,h=>h.elim
 | _::_,[],h=>h.elim
theorem xw.cells {w:World} {qs:List Vp} {vs:List Value} (h:xw w qs vs):j9 w vs.toArray qs:=⟨by simpa using h.get.1,fun j q hq=>by simpa using h.get.2 j q hq⟩
theorem lN {w:World}:(Vp.dig (nl 0) 0).p w (.slice none 0 0):=by
 rw[bx]
 exact⟨none,0,rfl,Nat.le_refl _,⟨by simp,fun h=>absurd h (by simp)⟩⟩
theorem eV {w:World} {v:Value} (h:dr v):(Vp.val v).p w v:=⟨rfl,h⟩
theorem gO {w:World} {c p:Nm} {f:Int} {b g:Nat} {sl:Value}:j9 w (cA c p f g) (lnQ c ⟨eg p f,b,g,sl⟩):=
 xw.cells (vs:=(cA c p f g).toList) ⟨eV gB,eV gB,eV aO,eV aO,eV bJ,eV bJ,lN,lN,eV bJ,lN,lN,eV bJ,lN,lN,eV bJ,lN,lN,eV bJ,lN,lN,eV bJ,lN,lN,eV bJ,lN,lN,eV rX,trivial⟩
theorem fp_add {A O B N Q:List Nat} {g2 n:Nat} (h:(A++(O++B)++Q).Nodup) (hlt:∀x∈A++(O++B)++Q,x<n) (hg:g2∈O∨n≤g2) (hN:(g2::N).Nodup) (hn:∀x∈N,n≤x):(A++(g2::(B++N))++Q).Nodup:=by
 have hp:(A++(g2::(B++N))++Q).Perm ((A++B++Q)++(g2::N)):=List.perm_iff_count.2 (fun x=>by simp only[List.count_append,List.count_cons];omega)
 have hp2:(A++(O++B)++Q).Perm ((A++B++Q)++O):=List.perm_iff_count.2 (fun x=>by simp only[List.count_append];omega)
 rw[hp.nodup_iff]
 rw[hp2.nodup_iff]at h
 obtain⟨h1,h2,h3⟩:=List.nodup_append.1 h
 refine List.nodup_append.2 ⟨h1,hN,fun a ha b hb e=> ?_⟩
 subst e
 have halt:a<n:=hlt a ((hp2.mem_iff).2 (List.mem_append.2 (.inl ha)))
 rcases List.mem_cons.1 hb with rfl | hb
 ·rcases hg with hg | hg
  ·exact h3 a ha a hg rfl
  ·omega
 ·have:=hn a hb;omega
/-- E is E1, the row of c (if there is one) with these links, E2. -/
def AtC (E:List Ch) (c:Nm) (E1 E2:List Ch) (O:List Nat) (ls:List Ln):Prop:=(O=[]∧ls=[]∧E=E1∧E2=[]∧chE E c=none)∨∃rb cap,O=[rb]∧E=E1++⟨c,rb,cap,ls⟩::E2
theorem AtC.fp {E:List Ch} {c:Nm} {E1 E2:List Ch} {O:List Nat} {ls:List Ln} (h:AtC E c E1 E2 O ls) (t m:Nat):fpT t m E=(t::m::E1.flatMap Ch.fp)++(O++ls.flatMap Ln.fp)++E2.flatMap Ch.fp:=by
 rcases h with⟨rfl,rfl,rfl,rfl,_⟩ | ⟨rb,cap,rfl,rfl⟩
 ·simp[fpT]
 ·simp[fpT,Ch.fp,List.flatMap_append,List.flatMap_cons,List.append_assoc]
theorem aas (t m:Nat) (c:Nm) (E1 E2:List Ch) (g2 cap2:Nat) (ls:List Ln) (l:Ln):fpT t m (E1++⟨c,g2,cap2,ls++ [l]⟩::E2)=(t::m::E1.flatMap Ch.fp)++(g2::(ls.flatMap Ln.fp++l.fp))++E2.flatMap Ch.fp:=by
 simp[fpT,Ch.fp,List.flatMap_append,List.flatMap_cons,List.append_assoc]
theorem AtC.put {E:List Ch} {c:Nm} {E1 E2:List Ch} {O:List Nat} {ls:List Ln} (h:AtC E c E1 E2 O ls) (hn:(E.map (·.c)).Nodup) (g2 cap2:Nat) (l:Ln):
  oL (E.map fun ch=>(ch.c,ch.row)) c (.slice (some ⟨g2,0,none⟩) (ls.length+1) cap2)=(E1++⟨c,g2,cap2,ls++ [l]⟩::E2).map fun ch=>(ch.c,ch.row):=by
 have e:(⟨c,g2,cap2,ls++ [l]⟩:Ch).row= .slice (some ⟨g2,0,none⟩) (ls.length+1) cap2:=by simp[Ch.row]
 rcases h with⟨rfl,rfl,rfl,rfl,hc⟩ | ⟨rb,cap,rfl,rfl⟩
 ·have hc2:c∉(E.map fun ch=>(ch.c,ch.row)).map (·.1):=fun hm=>by
   rw[List.map_map]at hm
   obtain⟨ch,h1,h2⟩:=List.mem_map.1 hm
   exact sD hc h1 h2
  rw[oL,if_neg hc2,List.map_append,List.map_cons,e];rfl
 ·have hm:c∈((E1++(⟨c,rb,cap,ls⟩:Ch)::E2).map fun ch=>(ch.c,ch.row)).map (·.1):=by simp
  rw[oL,if_pos hm,List.map_map,List.map_append,List.map_cons,List.map_append,List.map_cons,e]
  rw[List.map_append,List.map_cons,List.nodup_append,List.nodup_cons]at hn
  obtain⟨_,⟨h2,_⟩,h3⟩:=hn
  have k1:∀ch∈E1,ch.c≠c:=fun ch hc e=>h3 _ (List.mem_map.2 ⟨ch,hc,rfl⟩) c (List.mem_cons_self ..) e
  have k2:∀ch∈E2,ch.c≠c:=fun ch hc e=>h2 (List.mem_map.2 ⟨ch,hc,e⟩)
  congr 1
  ·exact List.map_congr_left (fun ch hc=>by simp[k1 ch hc])
  ·congr 1
   ·simp
   ·exact List.map_congr_left (fun ch hc=>by simp[k2 ch hc])
theorem asz (w:World) (o:Obj):(w.alloc o).heap.size=w.heap.size+1:=Array.size_push ..
set_option maxHeartbeats 2000000 in
theorem vK {w4 w5:World} {t m:Nat} {E:List Ch} {c p:Nm} {f:Int} {E1 E2:List Ch} {O:List Nat} {ls:List Ln} {g:Nat} {sl v:Value} (hT:TM w4 t m E) (hA:AtC E c E1 E2 O ls) (hl64:ls.length<64)
  (hg:w4.heap.size≤g) (hTk:TrkS trT w5 g sl []) (hso:∀b,sl.ownBlock=some b→w4.heap.size≤b∧bB w5 b) (hb5:Below w4.heap.size w4 w5) (hv:∀k,v.ownBlock=some k→k∈O) (hro:bM w4 lpT 1 v ls.length (ls.map fun l=>ptB l.b)):
  ∃(g2 cap2:Nat) (w8 w9:World),(Builtin.append_ #[158,158] 158 #[v,.slice (some ⟨w5.heap.size+1,0,none⟩) 1 1]).run Tryz.prog ((w5.alloc (.cells (cA c p f g) lkT)).alloc (.cells #[ptB w5.heap.size] lpT))= .ok (.slice (some ⟨g2,0,none⟩) (ls.length+1) cap2) w8∧w8.cell? ⟨t,0,none⟩=some (.map (some m))∧
   (Instr.mapUpdate mpT (.map (some m)) (.string c) (.slice (some ⟨g2,0,none⟩) (ls.length+1) cap2)).run Tryz.prog w8= .ok () w9∧w9.cell? ⟨t,0,none⟩=some (.map (some m))∧TPost w4 t m E w9 (E1++⟨c,g2,cap2,ls++ [⟨eg p f,w5.heap.size,g,sl⟩]⟩::E2):=by
 have hb7:Below w5.heap.size w5 ((w5.alloc (.cells (cA c p f g) lkT)).alloc (.cells #[ptB w5.heap.size] lpT)):=((Below.refl _ _).alloc (Nat.le_refl _) _).alloc (by rw[asz];omega) _
 have hs7:((w5.alloc (.cells (cA c p f g) lkT)).alloc (.cells #[ptB w5.heap.size] lpT)).heap.size=w5.heap.size+1+1:=by rw[asz,asz]
 have hn7:((w5.alloc (.cells (cA c p f g) lkT)).alloc (.cells #[ptB w5.heap.size] lpT)).heap[w5.heap.size]? =some (.cells (cA c p f g) lkT (0,0)):=by
  rw[heap_alloc_old _ _ (by rw[asz];omega),heap_alloc_new]
 have hn8:((w5.alloc (.cells (cA c p f g) lkT)).alloc (.cells #[ptB w5.heap.size] lpT)).heap[w5.heap.size+1]? =some (.cells #[ptB w5.heap.size] lpT (0,0)):=by
  have:=heap_alloc_new (w5.alloc (.cells (cA c p f g) lkT)) (.cells #[ptB w5.heap.size] lpT)
  rwa [asz]at this
 generalize hw7:(w5.alloc (.cells (cA c p f g) lkT)).alloc (.cells #[ptB w5.heap.size] lpT)=w7 at *
 have hvlt0:∀k,v.ownBlock=some k→k<w4.heap.size:=fun k hk=>by
  obtain⟨cs,T,h1,_⟩:=hro.2 k hk
  exact(Array.getElem?_eq_some_iff.1 h1).1
 have h47:∀k,k<w4.heap.size→w7.heap[k]? =w4.heap[k]? :=fun k hk=>by rw[hb7.block k (Nat.lt_of_lt_of_le hk hb5.size),hb5.block k hk]
 have hro7:bM w7 lpT 1 v ls.length (ls.map fun l=>ptB l.b):=by
  obtain⟨⟨h1,h2⟩,h3⟩:=hro
  refine⟨⟨h1,h2.imp id ?_⟩,fun k hk=> ?_⟩
  ·rintro⟨k,cap,cur,e,hb,hg,hr⟩
   exact⟨k,cap,cur,e,hb,by rw[h47 k (Array.getElem?_eq_some_iff.1 hg).1];exact hg,hr⟩
  ·obtain⟨cs,T,k1,k2⟩:=h3 k hk
   exact⟨cs,T,by rw[h47 k (Array.getElem?_eq_some_iff.1 k1).1];exact k1,k2⟩
 obtain⟨i0,hi,hz0,hz1,hz2⟩:=info_parts (P:=Tryz.prog) (e:=lpT) (z:=.pointer none) (size:=1) (bytes:=8) (by kernel_rfl)
 obtain⟨v',w8,happ,hgrow,hvO,hat,hown,hOwn⟩:=nh (p:=Tryz.prog) (w:=w7) (t:=158) (ty:=158) (e:=lpT) (i:=i0) (z:=.pointer none) Tryz.underlying158 hi hz0 (by rw[hz1];rfl) (by omega) (fun u hu n e=>by
  have:u= .pointer none:=by simpa [Value.cells]using hu
  subst this;cases e) (v:=v) (n:=ls.length) (xs:=ls.map fun l=>ptB l.b) (by rw[hz1];exact hro7) (a:=⟨w5.heap.size+1,0,none⟩) (m:=1) (c:=1) (news:=[ptB w5.heap.size]) (by rw[hz1];rfl)
  (World.news_of_block hn8) (fun u hu=>by simp at hu;subst hu;rfl) (fun u hu n e=>by simp at hu;subst hu;cases e) (by omega) (by rw[hz2];omega) (by omega)
 rw[hz1]at hown
 have hlt:=hT.lt
 have hnd:=hT.nd
 have hfp:=hA.fp t m
 rw[hfp]at hnd hlt
 have h45:=hb5.size
 have hOin:∀k∈O,k∈fpT t m E:=fun k hk=>by rw[hfp];simp[hk]
 have hvlt:∀k,v.ownBlock=some k→k<w4.heap.size:=fun k hk=>hT.lt k (hOin k (hv k hk))
 have hmlt:m<w4.heap.size:=hT.lt m (by simp[fpT])
 have htlt:t<w4.heap.size:=hT.lt t (by simp[fpT])
 have hmO:m∉O:=fun hm=>by
  rw[List.nodup_append,List.nodup_append]at hnd
  exact hnd.1.2.2 m (by simp) m (by simp[hm]) rfl
 have htO:t∉O:=fun hm=>by
  rw[List.nodup_append,List.nodup_append]at hnd
  exact hnd.1.2.2 t (by simp) t (by simp[hm]) rfl
 have htm:t≠m:=fun e=>by
  subst e
  have:=hT.nd
  simp[fpT]at this
 have k8:∀k,k<w4.heap.size→k∉O→w8.heap[k]? =w4.heap[k]? :=fun k hk hO=>by
  rw[hgrow.block k (by omega) (fun e=>hO (hv k e.symm)),hb7.block k (by omega),hb5.block k hk]
 have k8':∀k,w4.heap.size≤k→k<w7.heap.size→w8.heap[k]? =w7.heap[k]? :=fun k hk hk2=>hgrow.block k hk2 (fun e=>by have:=hvlt k e.symm;omega)
 have hs8:w7.heap.size≤w8.heap.size:=hgrow.size
 obtain⟨hxl,⟨_,h0⟩ | ⟨g2,cap2,cur,rfl,_,hcur,hc1,hc2,hc3,hc4⟩⟩:=hown
 ·omega
 replace hat:v.ownBlock=some g2∨w7.heap.size≤g2:=hat g2 rfl
 have hM8:cF w8 m (E.map fun ch=>(ch.c,ch.row)):=hT.mp.other (k8 m hmlt hmO)
 obtain⟨w9,hmu,hM9,hu9⟩:=cF.update (P:=Tryz.prog) (t:=mpT) hM8 Tryz.underlying142 (by kernel_rfl) c (.slice (some ⟨g2,0,none⟩) (ls.length+1) cap2)
 rw[hA.put hT.keys g2 cap2 ⟨eg p f,w5.heap.size,g,sl⟩]at hM9
 have hg2m:g2≠m:=fun e=>by
  rcases hat with h | h
  ·exact hmO (e▸hv g2 h)
  ·omega
 have k9:∀k,k<w4.heap.size→k≠m→k∉O→w9.heap[k]? =w4.heap[k]? :=fun k hk hm hO=>by rw[hu9.block k hm];exact k8 k hk hO
 have hs9:w9.heap.size=w8.heap.size:=hu9.size
 have hX:Chg w4 w9 (fun k=>k=m∨k∈O):=⟨by omega,fun k hk hn=>k9 k hk (fun e=>hn (.inl e)) (fun e=>hn (.inr e)),fun k hk=>hT.own k (by
  rcases hk with rfl | hk
  ·simp[fpT]
  ·exact hOin k hk)⟩
 have hX59:Chg w5 w9 (fun k=>k=m∨k∈O):=⟨by have:=hb7.size;omega,fun k hk hn=>by
  rw[hu9.block k (fun e=>hn (.inl e)),hgrow.block k (by omega) (fun e=>hn (.inr (hv k e.symm)))]
  exact hb7.block k hk,fun k hk=>by
  have hkm:k∈fpT t m E:=by
   rcases hk with rfl | hk
   ·simp[fpT]
   ·exact hOin k hk
  exact(hT.own k hkm).blk (hb5.block k (hT.lt k hkm)) h45⟩
 have hcur9:w9.heap[g2]? =some (.cells cur lpT (0,0)):=by rw[hu9.block g2 hg2m];exact hcur
 have hcget:∀(j:Nat) (l:Ln),(ls++ [⟨eg p f,w5.heap.size,g,sl⟩])[j]? =some l→cur[j]? =some (ptB l.b):=fun j l hj=>by
  have h1:(((ls++ [(⟨eg p f,w5.heap.size,g,sl⟩:Ln)]).map fun l=>ptB l.b)[j]?)=some (ptB l.b):=by rw[List.getElem?_map,hj];rfl
  rw[List.map_append,List.map_cons,List.map_nil,←hc4,List.getElem?_take]at h1
  split at h1
  ·simpa using h1
  ·cases h1
 have hglt:g<w5.heap.size:=(Array.getElem?_eq_some_iff.1 hTk.blk).1
 have hbO:∀k,w4.heap.size≤k→¬(k=m∨k∈O):=fun k hk h=>by
  rcases h with rfl | h
  ·omega
  ·have:=hT.lt k (hOin k h);omega
 have hTk9:TrkS trT w9 g sl []:=hTk.chg hX59 (hbO g hg) (fun b hb=>hbO b (hso b hb).1)
 have hlb9:w9.heap[w5.heap.size]? =some (.cells (cA c p f g) lkT (0,0)):=by
  rw[hu9.block _ (by omega),k8' _ (by omega) (by omega)];exact hn7
 have hLn:LnAt w9 c ⟨eg p f,w5.heap.size,g,sl⟩:=⟨⟨_,hlb9,gO⟩,hTk9⟩
 have hg2d:g2∈O∨w5.heap.size+1+1≤g2:=hat.imp (hv g2) (fun h=>by omega)
 have hslt:∀b,sl.ownBlock=some b→b<w5.heap.size:=fun b hb=>(hso b hb).2.1
 have hN:(g2::(⟨eg p f,w5.heap.size,g,sl⟩:Ln).fp).Nodup:=by
  refine List.nodup_cons.2 ⟨fun hm=> ?_,List.nodup_cons.2 ⟨fun hm=> ?_,List.nodup_cons.2 ⟨fun hm=> ?_,by cases sl.ownBlock<;>simp⟩⟩⟩
  ·simp only[Ln.fp,List.mem_cons,Option.mem_toList]at hm
   rcases hg2d with h | h
   ·have:=hT.lt _ (hOin _ h)
    rcases hm with h2 | h2 | h2
    ·omega
    ·omega
    ·have:=(hso _ h2).1;omega
   ·rcases hm with h2 | h2 | h2
    ·omega
    ·omega
    ·have:=hslt _ h2;omega
  ·simp only[List.mem_cons,Option.mem_toList]at hm
   rcases hm with h2 | h2
   ·omega
   ·have:=hslt _ h2;omega
  ·simp only[Option.mem_toList]at hm
   exact hTk.ne _ hm rfl
 have hNge:∀x∈(⟨eg p f,w5.heap.size,g,sl⟩:Ln).fp,w4.heap.size≤x:=fun x hx=>by
  simp only[Ln.fp,List.mem_cons,Option.mem_toList]at hx
  rcases hx with rfl | rfl | hx
  ·omega
  ·exact hg
  ·exact(hso x hx).1
 have hownX:∀x∈(⟨eg p f,w5.heap.size,g,sl⟩:Ln).fp,bB w9 x:=fun x hx=>by
  simp only[Ln.fp,List.mem_cons,Option.mem_toList]at hx
  rcases hx with rfl | rfl | hx
  ·refine .mk' hlb9 (fun k n hk=> ?_)
   obtain⟨q,hq⟩:∃q,(lnQ c (⟨eg p f,w5.heap.size,g,sl⟩:Ln))[k]? =some q:=⟨_,List.getElem?_eq_getElem (by
    have:=(gO (w:=w9) (c:=c) (p:=p) (f:=f) (b:=w5.heap.size) (g:=g) (sl:=sl)).1
    rw[←this];exact(Array.getElem?_eq_some_iff.1 hk).1)⟩
   obtain⟨u,h1,h2⟩:=(gO (w:=w9) (c:=c) (p:=p) (f:=f) (b:=w5.heap.size) (g:=g) (sl:=sl)).2 k q hq
   rw[hk]at h1;injection h1 with h1;subst h1
   exact(q.fl _ _ h2).2.2 n rfl
  ·refine .mk' hTk9.blk (fun k n hk=> ?_)
   cases k with
   | zero=>
    simp at hk;subst hk
    exact((Vp.row stT 0 (aC [])).fl w9 _ hTk9.row).2.2 n rfl
   | succ k=>simp at hk
  ·exact(hso x hx).2.blk (hX59.blk x (hslt x hx) (hbO x (hso x hx).1)) hX59.size
 have hXn:∀k∈fpT t m E,(k=m∨k∈O)→k=m∨k∈O:=fun _ _ h=>h
 have hch:∀ch∈E1++E2,ch∈E∧∀k∈ch.fp,¬(k=m∨k∈O):=fun ch hc=>by
  have hin:ch∈E:=by
   rcases hA with⟨_,_,rfl,rfl,_⟩ | ⟨rb,cap,_,rfl⟩
   ·simpa using hc
   ·rcases List.mem_append.1 hc with h | h
    ·exact List.mem_append.2 (.inl h)
    ·exact List.mem_append.2 (.inr (List.mem_cons_of_mem _ h))
  refine⟨hin,fun k hk hkO=> ?_⟩
  rw[List.nodup_append,List.nodup_append]at hnd
  rcases List.mem_append.1 hc with h | h
  ·have hkA:k∈E1.flatMap Ch.fp:=List.mem_flatMap.2 ⟨ch,h,hk⟩
   rcases hkO with rfl | hkO
   ·have:=hnd.1.1
    simp only[List.nodup_cons,List.mem_cons]at this
    exact this.2.1 hkA
   ·exact hnd.1.2.2 k (List.mem_cons_of_mem _ (List.mem_cons_of_mem _ hkA)) k (List.mem_append.2 (.inl hkO)) rfl
  ·have hkQ:k∈E2.flatMap Ch.fp:=List.mem_flatMap.2 ⟨ch,h,hk⟩
   rcases hkO with rfl | hkO
   ·exact hnd.2.2 k (by simp) k hkQ rfl
   ·exact hnd.2.2 k (by simp[hkO]) k hkQ rfl
 have hls:∀l∈ls,LnAt w4 c l∧∀k∈l.fp,¬(k=m∨k∈O):=fun l hl=>by
  refine⟨?_,fun k hk hkO=> ?_⟩
  ·rcases hA with⟨_,rfl,_⟩ | ⟨rb,cap,_,rfl⟩
   ·cases hl
   ·exact hT.lns ⟨c,rb,cap,ls⟩ (List.mem_append.2 (.inr (List.mem_cons_self ..))) l hl
  ·have hkB:k∈ls.flatMap Ln.fp:=List.mem_flatMap.2 ⟨l,hl,hk⟩
   rw[List.nodup_append,List.nodup_append]at hnd
   rcases hkO with rfl | hkO
   ·exact hnd.1.2.2 k (by simp) k (List.mem_append.2 (.inr hkB)) rfl
   ·have:=hnd.1.2.1
    rw[List.nodup_append]at this
    exact this.2.2 k hkO k hkB rfl
 have hcur':bB w9 g2:=(hOwn g2 rfl).x.blk (hu9.block g2 hg2m) (by omega)
 have hdis:∀x,x∈(t::m::E1.flatMap Ch.fp)∨x∈ls.flatMap Ln.fp∨x∈E2.flatMap Ch.fp→x∈fpT t m E∧x∉O:=fun x hx=>by
  refine⟨by rw[hfp];simp only[List.mem_append];rcases hx with h | h | h<;>simp[h],fun hO=> ?_⟩
  rw[List.nodup_append,List.nodup_append]at hnd
  rcases hx with h | h | h
  ·exact hnd.1.2.2 x h x (List.mem_append.2 (.inl hO)) rfl
  ·have:=hnd.1.2.1
   rw[List.nodup_append]at this
   exact this.2.2 x hO x h rfl
  ·exact hnd.2.2 x (List.mem_append.2 (.inr (List.mem_append.2 (.inl hO)))) x h rfl
 have hmem:∀x∈fpT t m (E1++⟨c,g2,cap2,ls++ [⟨eg p f,w5.heap.size,g,sl⟩]⟩::E2),(x∈fpT t m E∧x∉O)∨x=g2∨x∈(⟨eg p f,w5.heap.size,g,sl⟩:Ln).fp:=fun x hx=>by
  rw[aas]at hx
  simp only[List.mem_append,List.mem_cons]at hx
  rcases hx with(h | h | h | h) | h
  ·exact .inl (hdis x (.inl (by simpa using h)))
  ·exact .inr (.inl h)
  ·exact .inl (hdis x (.inr (.inl h)))
  ·exact .inr (.inr h)
  ·exact .inl (hdis x (.inr (.inr h)))
 have hsplit:∀ch∈E1++(⟨c,g2,cap2,ls++ [⟨eg p f,w5.heap.size,g,sl⟩]⟩:Ch)::E2,ch∈E1++E2∨ch=⟨c,g2,cap2,ls++ [⟨eg p f,w5.heap.size,g,sl⟩]⟩:=fun ch hc=>by
  rcases List.mem_append.1 hc with h | h
  ·exact .inl (List.mem_append.2 (.inl h))
  ·rcases List.mem_cons.1 h with h | h
   ·exact .inr h
   ·exact .inl (List.mem_append.2 (.inr h))
 have hct:w9.cell? ⟨t,0,none⟩=some (.map (some m)):=by rw[World.cell?_of_block (w:=w4) (k9 t htlt htm htO)];exact hT.cell
 have hct8:w8.cell? ⟨t,0,none⟩=some (.map (some m)):=by rw[World.cell?_of_block (w:=w4) (k8 t htlt htO)];exact hT.cell
 refine⟨g2,cap2,w8,w9,happ,hct8,hmu,hct,⟨⟨?_,hM9,fun ch hc=> ?_,fun ch hc l hl=> ?_,?_,fun k hk=> ?_⟩,⟨?_,?_,?_,?_,fun k hk hn=> ?_⟩,fun k hk=> ?_⟩⟩
 ·rw[k9 t htlt htm htO];exact hT.tr
 ·rcases hsplit ch hc with h | rfl
  ·obtain⟨h1,h2⟩:=hch ch h
   exact(hT.rows ch h1).chg hX (h2 _ (List.mem_cons_self ..))
  ·exact⟨⟨cur,hcur9,by show cur.size=cap2;omega,hcget⟩,by simpa using hc1,hc2,by simp⟩
 ·rcases hsplit ch hc with h | rfl
  ·obtain⟨h1,h2⟩:=hch ch h
   exact(hT.lns ch h1 l hl).chg hX (fun k hk=>h2 k (List.mem_cons_of_mem _ (List.mem_flatMap.2 ⟨l,hl,hk⟩)))
  ·rcases List.mem_append.1 hl with hl | hl
   ·obtain⟨h1,h2⟩:=hls l hl
    exact h1.chg hX h2
   ·simp only[List.mem_singleton]at hl;subst hl;exact hLn
 ·rw[aas]
  exact fp_add hnd hlt (hg2d.imp id (fun h=>by omega)) hN hNge
 ·rcases hmem k hk with⟨h1,h2⟩ | rfl | h1
  ·by_cases hkm:k=m
   ·subst hkm;exact hM9.own
   ·exact(hT.own k h1).blk (k9 k (hT.lt k h1) hkm h2) hX.size
  ·exact hcur'
  ·exact hownX k h1
 ·exact hu9.os.trans (hgrow.os.trans (hb7.os.trans hb5.os))
 ·exact hu9.tape.trans (hgrow.tape.trans (hb7.tape.trans hb5.tape))
 ·exact hu9.output.trans (hgrow.output.trans (hb7.output.trans hb5.output))
 ·exact hX.size
 ·exact k9 k hk (fun e=>hn (e▸(by simp[fpT]))) (fun h=>hn (hOin k h))
 ·rcases hmem k hk with⟨h1,_⟩ | rfl | h1
  ·exact .inl h1
  ·rcases hg2d with h | h
   ·exact .inl (hOin _ h)
   ·exact .inr (by omega)
  ·exact .inr (hNge k h1)
end Go.Proofs.YtggfmklppkioeaaGreat
namespace Go.Proofs.YtggfmklppkioeaaGreat
set_option linter.unusedSimpArgs false
set_option linter.unusedVariables false
set_option maxRecDepth 100000
open Go.RowKit
section
variable {w:World} {t m:Nat} {E:List Ch} {c p:Nm} {f:Int}
theorem uB (w:World):(Op.equal mpT (.map (some m)) (.map none)).run Tryz.prog w= .ok false w:=by
 unfold Op.equal Op.maxDepth Op.equalIn
 rw[Sem.run_bind,run_underlying Tryz.underlying142];rfl
theorem oQ (w:World):(binOp .eql mpT (.map (some m)) (.map none)).run Tryz.prog w= .ok (.bool false) w:=by
 simp[binOp,Sem.run_bind,uB,Result.andThen]
/-- append, at a step of a region in any order: by its run. -/
theorem sI {P:Program} {ops:Array Oper} {o:Oper} {a:Act} {w w':World} {v v':Value} {K:Act→World→Prop} {Q:Exit→Act→World→Prop} {X:Prop} {s x:Operand} {t:TypeId} (hgd:o.guard=none)
  (ho:o.op= .call {callee:=.builtin .append,args:=#[s,x],argTypes:=#[t,t]}) {y:Value} (hs:a.eval s=v) (hx:a.eval x=y) (hr:(Builtin.append_ #[t,t] o.type #[v,y]).run P w= .ok v' w') (h:K (a.put o.dst v') w'):
  if Region.wanted o (yielded ops a.tmps)=true then Oper.wp P o a w K Q else X:=by
 have hw:Region.wanted o (yielded ops a.tmps)=true:=by simp[Region.wanted,hgd]
 rw[if_pos hw]
 unfold Oper.wp execOp
 simp only[ho,resolve,invoke,builtin,Sem.run_bind,Sem.run_pure,Result.andThen_ok,List.map_toArray,List.map_cons,List.map_nil,hs,hx,hr]
 exact h
def REq (R R':Tr):Prop:=∀c,lks R c=lks R' c
theorem aat {E:List Ch} {c:Nm} (h:∀ch∈E,ch.c≠c):lks (trE E) c=[]:=by
 refine List.eq_nil_iff_forall_not_mem.2 (fun x hx=> ?_)
 obtain⟨ch,h1,l,_,e⟩:=cZ.1 (ce.1 hx)
 exact h ch h1 (congrArg (·.1) e).symm
theorem vL {E1 E2:List Ch} {O:List Nat} {ls:List Ln} (hA:AtC E c E1 E2 O ls) (hn:(E.map (·.c)).Nodup) (g2 cap2 b g:Nat) (sl:Value):REq (trE (E1++⟨c,g2,cap2,ls++ [⟨eg p f,b,g,sl⟩]⟩::E2)) (fD (trE E) c p f):=by
 intro y
 have e1:trE (E1++(⟨c,g2,cap2,ls++ [⟨eg p f,b,g,sl⟩]⟩:Ch)::E2)=trE E1++((ls++ [(⟨eg p f,b,g,sl⟩:Ln)]).map (fun l=>(c,l.x))++trE E2):=by simp[trE,List.flatMap_append,List.flatMap_cons]
 rw[e1,ft,ft,q8,lJ]
 rcases hA with⟨rfl,rfl,rfl,rfl,hc⟩ | ⟨rb,cap,rfl,rfl⟩
 ·have e2:lks (trE ([]:List Ch)) y=[]:=rfl
  rw[e2,List.append_nil]
  by_cases h:c=y
  ·subst h;rw[if_pos rfl,if_pos rfl];rfl
  ·rw[if_neg h,if_neg (Ne.symm h),List.append_nil]
 ·have e2:trE (E1++(⟨c,rb,cap,ls⟩:Ch)::E2)=trE E1++(ls.map (fun l=>(c,l.x))++trE E2):=by simp[trE,List.flatMap_append,List.flatMap_cons]
  rw[e2,ft,ft,q8]
  by_cases h:c=y
  ·subst h
   rw[List.map_append,List.map_cons,List.nodup_append,List.nodup_cons]at hn
   have e3:lks (trE E2) c=[]:=aat (fun ch hc e=>hn.2.1.1 (List.mem_map.2 ⟨ch,hc,e⟩))
   rw[if_pos rfl,if_pos rfl,if_pos rfl,e3,List.map_append]
   simp
  ·rw[if_neg h,if_neg h,if_neg (Ne.symm h)]
theorem TM.drew (h:TM w t m E):TM w.drew t m E:=h.below (Below.refl _ _).drew
theorem TPost.pre {w4 w9:World} {E':List Ch} (hb:Below w.heap.size w w4) (hT:TM w t m E) (hP:TPost w4 t m E w9 E'):TPost w t m E w9 E':=
 ⟨hP.tm,⟨hP.kp.os.trans hb.os,hP.kp.tape.trans hb.tape,hP.kp.output.trans hb.output,Nat.le_trans hb.size hP.kp.size,fun k hk hn=>(hP.kp.block k (Nat.lt_of_lt_of_le hk hb.size) hn).trans (hb.block k hk)⟩,fun g hg=>(hP.fp g hg).imp id (fun h=>Nat.le_trans hb.size h)⟩
theorem TM.ownRow {ch:Ch} (h:TM w t m E) (hc:chE E c=some ch):bM w lpT 1 ch.row ch.ls.length (ch.ls.map fun l=>ptB l.b):=by
 obtain⟨⟨cs,h1,h2,h3⟩,h4,h5,_⟩:=h.chAt hc
 refine⟨⟨by simp,.inr ⟨ch.rb,ch.cap,cs,rfl,Nat.zero_le _,h1,h4,h5,by omega,?_⟩⟩,fun k hk=> ?_⟩
 ·apply List.ext_getElem?
  intro j
  rw[List.getElem?_take,List.getElem?_map,Nat.mul_one]
  split
  ·rename_i hj
   obtain⟨l,hl⟩:∃l,ch.ls[j]? =some l:=⟨_,List.getElem?_eq_getElem hj⟩
   rw[hl,Array.getElem?_toList,h3 j l hl];rfl
  ·rename_i hj
   rw[List.getElem?_eq_none (by omega)];rfl
 ·have hk:ch.rb=k:=by simpa [Ch.row,Value.ownBlock]using hk
  subst hk
  have ho:=h.own ch.rb (qZ (cK hc).1 (List.mem_cons_self ..))
  exact⟨cs,lpT,h1,fun k n hn=>ho.2 k n (by rw[ba h1];exact hn)⟩
theorem aau {ch:Ch} (hc:chE E c=some ch):∃E1 E2,AtC E c E1 E2 [ch.rb] ch.ls:=by
 obtain⟨_,A,B,rfl,_⟩:=List.find?_eq_some_iff_append.1 hc
 have e:=(cK hc).2
 obtain⟨c',rb,cap,ls⟩:=ch
 simp only at e;subst e
 exact⟨A,B,.inr ⟨rb,cap,rfl,rfl⟩⟩
open Classical in
theorem xx {n0:Nat} (h:TM w t m E) (hE:TOk (trE E)) (hc:db c) (hp:db p) (ht:TimeOk E c f) (hn:bO (fun x=>bo (trE E) x∨x=c∨x=p) n0) (h24:n0≤24) (h64:(lsE E c).length<64) (hy:¬Cyc (trE E) c p f):
  Calls Tryz.prog 67 #[ptB t,.string c,.string p,.int .i64 f] w fun e w'=>e= .returned (.int .i64 0)∧∃E',TPost w t m E w' E'∧REq (trE E') (fD (trE E) c p f):=by
 have k1:=jL (w:=w) hc
 have k2:=jL (w:=w) hp
 have h1:=h.cell
 have h2:=h.look c
 have hop:=ke h c
 have hkn:=i4 h
 have c1:decide (f<0)=false:=decide_eq_false (by have:=ht.lo;omega)
 have c2:decide (1099511627776<f)=false:=decide_eq_false (by have:=ht.hi;omega)
 rw[ht.op]at hop
 change Calls _ _ _ _ (fun e w'=>e= .returned (.pointer none)∧w'=w)at hop
 have HN:=Lib.hid hn
 have h24':decide ((24:Int)<(n0:Int))=false:=decide_eq_false (by omega)
 have HT:=Lib.hid h
 have HE:=Lib.hid hE
 have HY:=Lib.hid (decide_eq_false hy)
 cases hch:chE E c with
 | none=>
  replace h2:(Instr.lookup mpT (.map (some m)) (.string c) false).run Tryz.prog w= .ok (.slice none 0 0) w:=by rw[h2];unfold lL;rw[hch];rfl
  have HA:=Lib.hid (show AtC E c E [] [] []from .inl ⟨rfl,rfl,rfl,rfl,hch⟩)
  clear hc hp ht hn h24 h hch h64 hE hy
  go_enter Tryz.func67,Tryz.ntmps67
  go_wp2_with (first
   | (go_at_call 123;with_reducible refine k1.mono ?_;rintro e w' ⟨rfl,hw'⟩;obtain rfl:=hw'.symm)
   | (go_at_call 123;with_reducible refine k2.mono ?_;rintro e w' ⟨rfl,hw'⟩;obtain rfl:=hw'.symm)
   | (go_at_call 124;refine hop.mono ?_;rintro e w' ⟨rfl,hw'⟩;obtain rfl:=hw'.symm)
   | (go_at_call 89;refine hkn.mono ?_;rintro e w1 ⟨b,l,rfl,hS,hbl,hl,hb⟩;obtain⟨w2,w3,hm1,hm2,hm3,hu3⟩:=di hS hl HN.out;have HB:=Lib.hid (hu3.below hb hbl);have hcy:=np (HT.out.below HB.out) HE.out c p f;rw[HY.out]at hcy;clear hb hl hS hbl hu3)
   | (go_at_call 125;refine hcy.mono ?_;rintro e w4 ⟨rfl,hb4⟩;have HB4:=Lib.hid (HB.out.trans (hb4.mono HB.out.size));have h14:=(HT.out.below HB4.out).cell;have h15:=oQ (m:=m) w4;clear hb4))
  clear k1 k2 hop hkn c1 c2 h24' hcy hm1 hm2 hm3 h1 h2 h15
  have HI:=Lib.hid (show t<w4.heap.size from(HT.out.below HB4.out).lt t (by simp[fpT]))
  have HT4:=Lib.hid (HT.out.below HB4.out).drew
  go_region_held3 (fun w'=>w'.cell? ⟨t,0,none⟩=some (.map (some m))) (first | assumption | go_keep)
   (first
    | (go_at_call 126;refine(aab _).mono ?_;rintro e w5 ⟨g,sl,rfl,hg,hTk,hso,hb5⟩;have hS5:w5.cell? ⟨t,0,none⟩=some (.map (some m)):=(by rw[hb5.cell (p:=⟨t,0,none⟩) HI.out];exact h14);obtain⟨g2,cap2,w8,w9,happ,hS8,hmu,hS9,hP⟩:=vK (c:=c) (p:=p) (f:=f) (v:=.slice none 0 0) HT4.out HA.out (by decide) hg hTk hso hb5 (fun k hk=>by cases hk) ⟨World.ownsRow_nil _ _ _ _,fun k hk=>by cases hk⟩;have HAP:=Lib.hid happ;have HP:=Lib.hid hP;have HR:=Lib.hid (vL (p:=p) (f:=f) HA.out HT4.out.keys g2 cap2 w5.heap.size g sl);replace hmu:(Instr.mapUpdate mpT (.map (some m)) (.string c) (.slice (some ⟨g2,0,none⟩) 1 cap2)).run Tryz.prog w8= .ok () w9:=hmu;clear hb5 hTk hso hg happ hP)
    | (refine sI rfl rfl rfl rfl HAP.out ?_;clear HAP))
  go_wp2
  go_ret
  exact⟨rfl,_,HP.out.pre HB4.out.drew HT.out,HR.out⟩
 | some ch=>
  have H:=h.chAt hch
  have hpos:=List.length_pos_iff.2 H.ne
  have hls:lsE E c=ch.ls:=by unfold lsE;rw[hch];rfl
  rw[hls]at h64
  obtain⟨E1,E2,hA⟩:=aau hch
  have HA:=Lib.hid hA
  obtain⟨l0,hl0⟩:∃l,ch.ls[ch.ls.length - 1]? =some l:=⟨_,List.getElem?_eq_getElem (by omega)⟩
  have hcl:=H.cell hl0
  have hun:=(h.ln hch (List.mem_of_getElem? hl0)).un
  have hle:decide (f<l0.x.un)=false:=decide_eq_false (by
   have:=ht.la l0 (by rw[hls,List.getLast?_eq_getElem?];exact hl0)
   omega)
  replace h2:(Instr.lookup mpT (.map (some m)) (.string c) false).run Tryz.prog w= .ok (.slice (some ⟨ch.rb,0,none⟩) ch.ls.length ch.cap) w:=by rw[h2];unfold lL;rw[hch];rfl
  have hm:(ch.ls.length:Int)≤9223372036854775807:=by omega
  have hk:((ch.ls.length:Int) - 1).toNat=ch.ls.length - 1:=by omega
  have hk0:(0:Int)<ch.ls.length:=by omega
  have hk1:(1:Int)≤ch.ls.length:=by omega
  have hk2:(ch.ls.length:Int) - 1<ch.ls.length:=by omega
  have hk64:decide ((64:Int)≤ch.ls.length)=false:=decide_eq_false (by omega)
  have H64:=Lib.hid h64
  have HCH:=Lib.hid hch
  generalize l0.b=lb at *
  generalize l0.x.un=un at *
  clear hc hp ht hn h24 h hch h64 hE hy H hpos hls hA hl0
  go_enter Tryz.func67,Tryz.ntmps67
  go_wp2_with (first
   | (go_at_call 123;with_reducible refine k1.mono ?_;rintro e w' ⟨rfl,hw'⟩;obtain rfl:=hw'.symm)
   | (go_at_call 123;with_reducible refine k2.mono ?_;rintro e w' ⟨rfl,hw'⟩;obtain rfl:=hw'.symm)
   | (go_at_call 124;refine hop.mono ?_;rintro e w' ⟨rfl,hw'⟩;obtain rfl:=hw'.symm)
   | (go_at_call 89;refine hkn.mono ?_;rintro e w1 ⟨b,l,rfl,hS,hbl,hl,hb⟩;obtain⟨w2,w3,hm1,hm2,hm3,hu3⟩:=di hS hl HN.out;have HB:=Lib.hid (hu3.below hb hbl);have hcy:=np (HT.out.below HB.out) HE.out c p f;rw[HY.out]at hcy;clear hb hl hS hbl hu3)
   | (go_at_call 125;refine hcy.mono ?_;rintro e w4 ⟨rfl,hb4⟩;have HB4:=Lib.hid (HB.out.trans (hb4.mono HB.out.size));have h14:=(HT.out.below HB4.out).cell;have h15:=oQ (m:=m) w4;clear hb4))
  clear k1 k2 hop hkn c1 c2 h24' hcy hm1 hm2 hm3 h1 h2 h15 hcl hun hle hm hk hk0 hk1 hk2 hk64
  have HI:=Lib.hid (show t<w4.heap.size from(HT.out.below HB4.out).lt t (by simp[fpT]))
  have HT4:=Lib.hid (HT.out.below HB4.out).drew
  go_region_held3 (fun w'=>w'.cell? ⟨t,0,none⟩=some (.map (some m))) (first | assumption | go_keep)
   (first
    | (go_at_call 126;refine(aab _).mono ?_;rintro e w5 ⟨g,sl,rfl,hg,hTk,hso,hb5⟩;have hS5:w5.cell? ⟨t,0,none⟩=some (.map (some m)):=(by rw[hb5.cell (p:=⟨t,0,none⟩) HI.out];exact h14);obtain⟨g2,cap2,w8,w9,happ,hS8,hmu,hS9,hP⟩:=vK (c:=c) (p:=p) (f:=f) (v:=ch.row) HT4.out HA.out H64.out hg hTk hso hb5 (fun k hk=>by simp[Ch.row,Value.ownBlock]at hk;simp[hk]) (HT4.out.ownRow HCH.out);have HAP:=Lib.hid happ;have HP:=Lib.hid hP;have HR:=Lib.hid (vL (p:=p) (f:=f) HA.out HT4.out.keys g2 cap2 w5.heap.size g sl);clear hb5 hTk hso hg happ hP)
    | (refine sI rfl rfl rfl rfl HAP.out ?_;clear HAP))
  go_wp2
  go_ret
  exact⟨rfl,_,HP.out.pre HB4.out.drew HT.out,HR.out⟩
end
end Go.Proofs.YtggfmklppkioeaaGreat
namespace Go.Proofs.YtggfmklppkioeaaGreat
set_option linter.unusedSimpArgs false
set_option linter.unusedVariables false
set_option maxRecDepth 100000
open Go.RowKit
theorem REq.refl (R:Tr):REq R R:=fun _=>rfl
theorem REq.symm {R R':Tr} (h:REq R R'):REq R' R:=fun c=>(h c).symm
theorem REq.trans {R R' R'':Tr} (h:REq R R') (k:REq R' R''):REq R R'':=fun c=>(h c).trans (k c)
section
variable {R R':Tr} {c p x:Nm} {f a:Int}
theorem REq.mem (h:REq R R') (q:Nm×Lk):q∈R↔q∈R':=by
 obtain⟨c,x⟩:=q
 rw[←ce,←ce,h c]
theorem REq.tAt (h:REq R R') (c:Nm) (a:Int):tAt R c a=tAt R' c a:=by unfold Go.Proofs.YtggfmklppkioeaaGreat.tAt;rw[h c]
theorem REq.par (h:REq R R') (a:Int) (c:Nm):par R a c=par R' a c:=by unfold Go.Proofs.YtggfmklppkioeaaGreat.par;rw[h.tAt]
theorem REq.known (h:REq R R') (x:Nm):bo R x↔bo R' x:=by
 unfold bo
 exact⟨fun⟨q,h1,h2⟩=>⟨q,(h.mem q).1 h1,h2⟩,fun⟨q,h1,h2⟩=>⟨q,(h.mem q).2 h1,h2⟩⟩
theorem TOk.of_req (h:TOk R) (e:REq R R'):TOk R' where
 row:=fun c=>by rw[←e c];exact h.row c
 tm:=fun q hq=>h.tm q ((e.mem q).2 hq)
 acy:=fun a x=>(h.acy a x).mono (fun u v hu=>by rw[e.par];exact hu)
 good:=fun q hq=>h.good q ((e.mem q).2 hq)
 pose:=fun q hq=>h.pose q ((e.mem q).2 hq)
theorem TSm.of_req (h:TSm R) (e:REq R R'):TSm R':=by
 obtain⟨⟨n,h1,h2⟩,h3⟩:=h
 exact⟨⟨n,h1,h2.same e.known⟩,fun c=>by rw[←e c];exact h3 c⟩
end
theorem sJ {R:Tr} {c:Nm}:qU R c↔∀x∈lks R c,x.un≠ -1:=by
 constructor
 ·intro h x hx e
  obtain⟨i,hi,e2⟩:=List.getElem_of_mem (ce.1 hx)
  exact h i (c,x) (by rw[List.getElem?_eq_getElem hi,e2]) ⟨rfl,e⟩
 ·rintro h i ⟨c',x⟩ hi ⟨h1,h2⟩
  simp only at h1 h2;subst h1
  exact h x (ce.2 (List.mem_of_getElem? hi)) h2
section
variable {w:World} {t m:Nat} {E:List Ch} {c p:Nm} {f:Int}
open Classical in
theorem oR (h:TM w t m E) (hE:TOk (trE E)) (hc:Nam c) (hp:Nam p):
  Calls Tryz.prog 67 #[ptB t,.string c,.string p,.int .i64 f] w fun e w'=>∃E' R' code,e= .returned (.int .i64 code)∧TPost w t m E w' E'∧REq (trE E') R'∧AttS db (trE E) c p f R' code:=by
 by_cases hn:db c∧db p
 ·by_cases ht:f<0∨1099511627776<f∨(∃l,opL (lsE E c)=some l)∨∃l,(lsE E c).getLast? =some l∧f<l.x.un
  ·refine(ux h hn.1 hn.2 ht).mono ?_
   rintro e w' ⟨rfl,hw⟩
   obtain rfl:=hw.symm
   refine⟨E,trE E,17,rfl,.refl h (Below.refl _ _),.refl _,.time hn ?_⟩
   rcases ht with ht | ht | ⟨l,ht⟩ | ⟨l,ht,hl⟩
   ·exact .inl ht
   ·exact .inr (.inl ht)
   ·refine .inr (.inr (.inl ?_))
    obtain⟨hun,ch,hch,hk⟩:=lM ht
    have hq:=cZ.2 ⟨ch,(cK hch).1,l,List.mem_of_getElem? hk,rfl⟩
    rw[(cK hch).2]at hq
    obtain⟨k,hk1,hk2⟩:=List.getElem_of_mem hq
    exact⟨k,l.x,by rw[List.getElem?_eq_getElem hk1,hk2],hun⟩
   ·refine .inr (.inr (.inr ⟨l.x,?_,hl⟩))
    rw[fu h.keys]
    exact List.mem_map.2 ⟨l,List.mem_of_getLast? ht,rfl⟩
  ·have hop:opL (lsE E c)=none:=by
    cases ho:opL (lsE E c)with
    | none=>rfl
    | some l=>exact absurd (.inr (.inr (.inl ⟨l,ho⟩))) ht
   have hT:TimeOk E c f:=⟨by omega,by omega,hop,fun l hl=>by
    by_cases h1:f<l.x.un
    ·exact absurd (.inr (.inr (.inr ⟨l,hl,h1⟩))) ht
    ·omega⟩
   have hno:=oO h hE hop
   have hen:∀x∈lks (trE E) c,x.un≤f:=by
    refine ended (hE.row c) (sJ.1 hno) (fun x hx=> ?_) (fun x hx=> ?_)
    ·have h1:=hE.tm _ (ce.1 hx)
     have h2:=sJ.1 hno x hx
     simp only at h1
     rcases h1.2.2 with h3 | h3
     ·exact absurd h3 h2
     ·exact h3.1
    ·rw[fu h.keys,List.getLast?_map]at hx
     cases hl:(lsE E c).getLast? with
     | none=>rw[hl]at hx;cases hx
     | some l=>
      rw[hl]at hx
      simp only[Option.map_some,Option.some.injEq]at hx
      subst hx
      exact hT.la l hl
   have hlen:(lks (trE E) c).length=(lsE E c).length:=by rw[fu h.keys,List.length_map]
   have hlo:=hT.lo
   have hhi:=hT.hi
   obtain⟨n,hcn⟩:=uy (trE E) c p
   by_cases h24:24<n
   ·refine(uz h hn.1 hn.2 hT hcn h24).mono ?_
    rintro e w' ⟨rfl,hb⟩
    exact⟨E,trE E,15,rfl,.refl h hb,.refl _,.full hn hlo hhi hno hen n hcn (.inl h24)⟩
   ·by_cases h64:64≤(lsE E c).length
    ·refine(uA h hn.1 hn.2 hT hcn (by omega) h64).mono ?_
     rintro e w' ⟨rfl,hb⟩
     exact⟨E,trE E,15,rfl,.refl h hb,.refl _,.full hn hlo hhi hno hen n hcn (.inr (by omega))⟩
    ·by_cases hy:Cyc (trE E) c p f
     ·refine(xu h hE hn.1 hn.2 hT hcn (by omega) (by omega) hy).mono ?_
      rintro e w' ⟨rfl,hb⟩
      exact⟨E,trE E,19,rfl,.refl h hb,.refl _,.cycle hn hlo hhi hno hen n hcn ⟨by omega,by omega⟩ hy⟩
     ·refine(xx h hE hn.1 hn.2 hT hcn (by omega) (by omega) hy).mono ?_
      rintro e w' ⟨rfl,E',hP,hR⟩
      exact⟨E',_,0,rfl,hP,hR,.ok hn hlo hhi hno hen n hcn ⟨by omega,by omega⟩ hy⟩
 ·refine(uw hc hp hn).mono ?_
  rintro e w' ⟨rfl,hw⟩
  obtain rfl:=hw.symm
  exact⟨E,trE E,5,rfl,.refl h (Below.refl _ _),.refl _,.name hn⟩
end
end Go.Proofs.YtggfmklppkioeaaGreat
namespace Go.Proofs.YtggfmklppkioeaaGreat
set_option linter.unusedSimpArgs false
set_option linter.unusedVariables false
set_option maxRecDepth 100000
open Go.RowKit
section
variable {w w':World} {t m:Nat} {E1 E2:List Ch} {c:Nm} {rb cap:Nat} {L1 L2:List Ln} {l:Ln} {S':List St}
abbrev vM (l:Ln) (S':List St) (sl':Value):Ln:= {l with x:= {l.x with tr:=S'},sl:=sl'}
theorem TM.trk (h:TM w t m (cn E1 E2 c rb cap L1 L2 l)) (hM:TrkM trT w l.g l.sl S' w'):∃sl',TPost w t m (cn E1 E2 c rb cap L1 L2 l) w' (cn E1 E2 c rb cap L1 L2 (vM l S' sl')):=by
 obtain⟨⟨sl',hS,hb⟩,hk⟩:=hM
 have hown:∀g∈l.fp,bB w g:=fun g hg=>h.own g (h.sub g hg)
 have hmid:=h.mid
 have hnd:=h.lnd
 have hgfp:l.g∈l.fp:=by simp[Ln.fp]
 have hbg:l.b≠l.g:=fun e=>by
  unfold Ln.fp at hnd
  exact(List.nodup_cons.1 hnd).1 (e▸List.mem_cons_self ..)
 have hc:Chg w w' (· ∈l.fp):=⟨hk.size,fun g hg hn=>hk.block g hg (fun e=>hn (by rw[show g=l.g from e];exact hgfp)),hown⟩
 have hc1:Chg w w' (· =l.g):=⟨hk.size,fun g hg hn=>hk.block g hg hn,fun g hg=>hown g (by rw[show g=l.g from hg];exact hgfp)⟩
 obtain⟨⟨cs,h1,h2⟩,h3⟩:=hmid
 have hblt:l.b<w.heap.size:=(Array.getElem?_eq_some_iff.1 h1).1
 have hbe:w'.heap[l.b]? =w.heap[l.b]? :=hk.block _ hblt (fun e=>hbg e)
 have hL:LnAt w' c (vM l S' sl'):=⟨⟨cs,by rw[show(vM l S' sl').b=l.b from rfl,hbe];exact h1,h2.chg hc1 qY⟩,hS⟩
 have hfl:=(Vp.row stT S'.length (aC S')).fl w' _ hS.row
 refine⟨sl',h.put (l':=vM l S' sl') rfl rfl (fun b hb2=>(hb b hb2).imp id (·.1)) hL (fun g hg=> ?_) hc,⟨hk.os,hk.tape,hk.output,hk.size,fun g hg hn=>hk.block g hg (fun e=>hn (by rw[show g=l.g from e];exact h.sub _ hgfp))⟩,fun g hg=> ?_⟩
 ·have hg:g∈l.b::l.g::sl'.ownBlock.toList:=hg
  simp only[List.mem_cons,Option.mem_toList]at hg
  rcases hg with rfl | rfl | hg
  ·exact(hown _ (List.mem_cons_self ..)).blk hbe hk.size
  ·refine .mk' hS.blk (fun k n hk=> ?_)
   cases k with
   | zero=>simp at hk;exact hfl.2.2 n hk
   | succ k=>simp at hk
  ·rcases hb g hg with h4 | h4
   ·have hgm:g∈l.fp:=by simp[Ln.fp,h4]
    exact(hown g hgm).blk (hk.block g (hown g hgm).1 (fun e=>hS.ne g hg e)) hk.size
   ·exact h4.2
 ·rw[dC]at hg⊢
  simp only[List.mem_append]at hg⊢
  rcases hg with(hg | hg) | hg
  ·exact .inl (.inl (.inl hg))
  ·have hg:g∈l.b::l.g::sl'.ownBlock.toList:=hg
   simp only[List.mem_cons,Option.mem_toList]at hg
   rcases hg with rfl | rfl | hg
   ·exact .inl (.inl (.inr (List.mem_cons_self ..)))
   ·exact .inl (.inl (.inr hgfp))
   ·rcases hb g hg with h4 | h4
    ·exact .inl (.inl (.inr (by simp[Ln.fp,h4])))
    ·exact .inr h4.1
  ·exact .inl (.inr hg)
end
end Go.Proofs.YtggfmklppkioeaaGreat
namespace Go.Proofs.YtggfmklppkioeaaGreat
set_option linter.unusedSimpArgs false
set_option linter.unusedVariables false
set_option maxRecDepth 100000
open Go.RowKit
section
variable {ρ:Rho} {n m:Nat} {u c r:Int} {ik kd:IntKind} {l:Leaf} {t s d:TypeId}
theorem gP (h1:KI ρ l .u8 u) (hm:ρ[m]? =some (.val (.int .u8 r))) (hr:u.tmod c=r) (h0:¬(c=0)):(OIns.mk (.bin .rem t) [.one l,.one (.i .u8 c)] (.one (.ref m))).Ok Tryz.prog ρ:=fun B w vs hv=>by
 match vs,hv with
 | [v0,v1],hv=>
  have e0:=h1 _ _ _ hv.1
  have e1:v1= .int .u8 c:=hv.2.1
  subst e0;subst e1;subst hr
  refine⟨.int .u8 (u.tmod c),aA hm (aK (by decide)),fun xo yo=> ?_⟩
  simp[eqGuard,binOp,Op.intDiv,h0,Sem.run_bind,Result.andThen]
theorem mN (hs:Tryz.prog.underlying s=some (.int ik)) (hd:Tryz.prog.underlying d=some (.int .i64)) (h1:KI ρ l ik u) (hm:ρ[m]? =some (.val (.int .i64 u))) (k1: -9223372036854775808≤u) (k2:u≤9223372036854775807):(OIns.mk (.conv s d) [.one l] (.one (.ref m))).Ok Tryz.prog ρ:=fun B w vs hv=>by
 match vs,hv with
 | [v1],hv=>
  have e:=h1 _ _ _ hv.1
  subst e
  refine⟨.int .i64 u,aA hm aO,?_⟩
  have hw:IntKind.i64.wrap u=u:=by rw[IntKind.wrap_i64];omega
  simp[convert,Conv.intToInt,Sem.run_bind,run_underlying hs,run_underlying hd,Result.andThen,hw]
end
theorem I_intK {xs:List Fq} {ys:Rho} {l:Leaf} {k:Nat} {u:Int} (f:FuncId) (hen:∀(vs:Array Value) (w:World),(callFunc f vs).run Tryz.prog w= .ok (.enter f vs) w) (h:∀w:World,Calls Tryz.prog f #[.int .i64 u] w fun e w'=>gn w (Fq.ofInt u) e w') (h1:KI (frs xs++ys) l .i64 u) (hk:xs[k]? =some (.ofInt u)):OkI xs ys ⟨f,[.one l],.v (fr k)⟩:=
 ⟨hen,fun B w vs hB h0=>by
  match vs,h0 with
  | [va],h0=>
   have e:=h1 _ _ _ h0.1
   subst e
   refine(h w).mono ?_
   rintro e w' ⟨v,rfl,h2,h3⟩
   exact⟨v,rfl,(aD hk).2 h2,h3⟩⟩
theorem nu {xs:List Fq} {ys:Rho} {l:Leaf} {k:Nat} {u:Int} (h1:KI (frs xs++ys) l .i64 u) (hk:xs[k]? =some (.ofInt u)) (lu: -9223372036854775808≤u) (ru:u<9223372036854775808):OkI xs ys ⟨51,[.one l],.v (fr k)⟩:=I_intK _ (aw Tryz.func51 rfl rfl) (fun w=>yT u w lu ru) h1 hk
/-- The pose of a step. -/
def bj (x u:Int):Pq:=⟨⟨Fq.ofInt (if u % 8=7 then 2 else 1),Fq.ofInt 0,Fq.ofInt 0,Fq.ofInt (u % 7)⟩,⟨Fq.ofInt x,Fq.ofInt 0,Fq.ofInt 0⟩⟩
end Go.Proofs.YtggfmklppkioeaaGreat
namespace Go.Proofs.YtggfmklppkioeaaGreat
set_option linter.unusedSimpArgs false
set_option linter.unusedVariables false
set_option maxRecDepth 100000
open Go.RowKit
def pP (x u:Int):List Fq:=(Pq.id.cs++([(Fq.ofInt x),(Fq.ofInt (u % 7))]))
theorem q_Pose0 {w:World} (x u:Int) (hx: -128≤x∧x<128) (hu:0≤u∧u<256) (h7:u % 8≠7):
  Calls Tryz.prog 86 #[.int .i8 x,.int .u8 u] w fun e w'=>oo w (bj x u) e w':=by
 refine(bT (ρ:=frs (pP x u)++([.val (.int .i8 x),.val (.int .u8 u),.val (.int .i64 x),.val (.int .u8 (u % 7)),.val (.int .i64 (u % 7)),.val (.int .u8 (u % 8))]:List Vp)) (w:=w) (fuel:=300) (args:=[.one (.ref 27),.one (.ref 28)]) (vs:=[.int .i8 x,.int .u8 u]) (r:=.v (row [0,1,2,8,7,5,6])) (lo:=[]) (obs:=[])
  (ae (zx (kr:=[0,1,2,3,4,5,6]) ⟨rfl,rfl,rfl,rfl,rfl,rfl,rfl,trivial⟩) (ae (nu (k:=7) (u:=x) (aj (n:=29) rfl) rfl (by omega) (by omega)) (ae (nu (k:=8) (u:=(u % 7)) (aj (n:=31) rfl) rfl (by omega) (by omega)) ah)))
  (af (mN (m:=29) (s:=65) (d:=2) Tryz.underlying65 Tryz.underlying2 (aj (n:=27) rfl) rfl (by omega) (by omega)) (af (gP (t:=5) (u:=u) (m:=30) (c:=7) (aj (n:=28) rfl) rfl (Int.tmod_eq_emod_of_nonneg hu.1) (by decide)) (af (mN (m:=31) (s:=5) (d:=2) Tryz.underlying5 Tryz.underlying2 (aj (n:=30) rfl) rfl (by omega) (by omega)) (af (gP (t:=5) (u:=u) (m:=32) (c:=8) (aj (n:=28) rfl) rfl (Int.tmod_eq_emod_of_nonneg hu.1) (by decide)) (af (aB (t:=5) (aj (n:=32) rfl) (aN (c:=7)) (bV (by omega))) (ai)))))) (by kernel_rfl) Tryz.func86 (by kernel_rfl) aV ⟨aA (n:=27) rfl (aK (by decide)),⟨aA (n:=28) rfl (aK (by decide)),trivial⟩⟩).mono ?_
 rintro e w' ⟨v,rfl,h1,h2⟩
 have e1:bj x u=⟨⟨Fq.ofInt 1,Fq.ofInt 0,Fq.ofInt 0,Fq.ofInt (u % 7)⟩,⟨Fq.ofInt x,Fq.ofInt 0,Fq.ofInt 0⟩⟩:=by unfold bj;rw[if_neg h7]
 rw[e1]
 exact⟨v,rfl,(ag (xs:=pP x u) (ks:=[0,1,2,8,7,5,6]) (vs:=[Pq.id.rot.w,Pq.id.rot.x,Pq.id.rot.y,(Fq.ofInt (u % 7)),(Fq.ofInt x),Pq.id.pos.y,Pq.id.pos.z]) ⟨rfl,rfl,rfl,rfl,rfl,rfl,rfl,trivial⟩).1 h1,h2⟩
def pQ (x u:Int):List Fq:=(Pq.id.cs++([(Fq.ofInt x),(Fq.ofInt (u % 7)),(Fq.ofInt 2)]))
theorem q_Pose1 {w:World} (x u:Int) (hx: -128≤x∧x<128) (hu:0≤u∧u<256) (h7:u % 8=7):
  Calls Tryz.prog 86 #[.int .i8 x,.int .u8 u] w fun e w'=>oo w (bj x u) e w':=by
 refine(bT (ρ:=frs (pQ x u)++([.val (.int .i8 x),.val (.int .u8 u),.val (.int .i64 x),.val (.int .u8 (u % 7)),.val (.int .i64 (u % 7)),.val (.int .u8 (u % 8))]:List Vp)) (w:=w) (fuel:=300) (args:=[.one (.ref 30),.one (.ref 31)]) (vs:=[.int .i8 x,.int .u8 u]) (r:=.v (row [9,1,2,8,7,5,6])) (lo:=[]) (obs:=[])
  (ae (zx (kr:=[0,1,2,3,4,5,6]) ⟨rfl,rfl,rfl,rfl,rfl,rfl,rfl,trivial⟩) (ae (nu (k:=7) (u:=x) (aj (n:=32) rfl) rfl (by omega) (by omega)) (ae (nu (k:=8) (u:=(u % 7)) (aj (n:=34) rfl) rfl (by omega) (by omega)) (ae (qz (k:=9) rfl (by decide) (by decide)) ah))))
  (af (mN (m:=32) (s:=65) (d:=2) Tryz.underlying65 Tryz.underlying2 (aj (n:=30) rfl) rfl (by omega) (by omega)) (af (gP (t:=5) (u:=u) (m:=33) (c:=7) (aj (n:=31) rfl) rfl (Int.tmod_eq_emod_of_nonneg hu.1) (by decide)) (af (mN (m:=34) (s:=5) (d:=2) Tryz.underlying5 Tryz.underlying2 (aj (n:=33) rfl) rfl (by omega) (by omega)) (af (gP (t:=5) (u:=u) (m:=35) (c:=8) (aj (n:=31) rfl) rfl (Int.tmod_eq_emod_of_nonneg hu.1) (by decide)) (af (aB (t:=5) (aj (n:=35) rfl) (aN (c:=7)) (eO (by omega))) (ai)))))) (by kernel_rfl) Tryz.func86 (by kernel_rfl) aV ⟨aA (n:=30) rfl (aK (by decide)),⟨aA (n:=31) rfl (aK (by decide)),trivial⟩⟩).mono ?_
 rintro e w' ⟨v,rfl,h1,h2⟩
 have e1:bj x u=⟨⟨Fq.ofInt 2,Fq.ofInt 0,Fq.ofInt 0,Fq.ofInt (u % 7)⟩,⟨Fq.ofInt x,Fq.ofInt 0,Fq.ofInt 0⟩⟩:=by unfold bj;rw[if_pos h7]
 rw[e1]
 exact⟨v,rfl,(ag (xs:=pQ x u) (ks:=[9,1,2,8,7,5,6]) (vs:=[(Fq.ofInt 2),Pq.id.rot.x,Pq.id.rot.y,(Fq.ofInt (u % 7)),(Fq.ofInt x),Pq.id.pos.y,Pq.id.pos.z]) ⟨rfl,rfl,rfl,rfl,rfl,rfl,rfl,trivial⟩).1 h1,h2⟩
theorem uC {w:World} (x u:Int) (hx: -128≤x∧x<128) (hu:0≤u∧u<256):Calls Tryz.prog 86 #[.int .i8 x,.int .u8 u] w fun e w'=>oo w (bj x u) e w':=by
 by_cases h:u % 8=7
 ·exact q_Pose1 x u hx hu h
 ·exact q_Pose0 x u hx hu h
def aav (a:Fq):List Fq:=[a]
theorem q_ffr (va:Value) (a:Fq) (w:World) (ia:IsQ w va a) (ha:a.ok 1000000000):
  Calls Tryz.prog 163 #[va] w fun e w'=>gn w a e w':=by
 refine(cRn (ρ:=frs (aav a)++([]:List Vp)) (args:=[fr 0]) (vs:=[va]) (r:=.v (fr 0))
  (ae (lB (n:=1) (m:=1) rfl rfl (Nat.le_trans ha.p (by decide))) (ae (lB (n:=2) (m:=2) rfl rfl (Nat.le_trans ha.q (by decide))) ah))
  ai Tryz.func163 (by kernel_rfl) ⟨(aD (xs:=aav a) (k:=0) rfl).2 ia,trivial⟩).mono ?_
 rintro e w' ⟨v,rfl,h1,h2⟩
 exact⟨v,rfl,(aD (xs:=aav a) (k:=0) rfl).1 h1,h2⟩
theorem oS {xs:List Fq} {ys:Rho} {ia:Nat} {a:Fq} {ir:Nat} (aa:xs[ia]? =some a) (ar:xs[ir]? =some a) (ha:a.ok 1000000000):OkI xs ys ⟨163,[fr ia],.v (fr ir)⟩:=
 ⟨aw Tryz.func163 rfl rfl,fun B w vs hB h=>by
  match vs,h with
  | [va],h=>
   refine(q_ffr va a w ((aD aa).1 h.1) ha).mono ?_
   rintro e w' ⟨v,rfl,h1,h2⟩
   exact⟨v,rfl,(aD ar).2 h1,h2⟩⟩
def aaw (a:Pq):List Fq:=a.cs
theorem q_fcp (va:Value) (a:Pq) (w:World) (ia:dY w va a) (ha:a.ok 1000000000):
  Calls Tryz.prog 97 #[va] w fun e w'=>oo w a e w':=by
 refine(cRn (ρ:=frs (aaw a)++([]:List Vp)) (args:=[row [0,1,2,3,4,5,6]]) (vs:=[va]) (r:=.v (row [0,1,2,3,4,5,6]))
  (ae (oS (ia:=0) (ir:=0) rfl rfl (ha.rot.w.mono (by decide))) (ae (oS (ia:=1) (ir:=1) rfl rfl (ha.rot.x.mono (by decide))) (ae (oS (ia:=2) (ir:=2) rfl rfl (ha.rot.y.mono (by decide))) (ae (oS (ia:=3) (ir:=3) rfl rfl (ha.rot.z.mono (by decide))) (ae (oS (ia:=4) (ir:=4) rfl rfl (ha.pos.x.mono (by decide))) (ae (oS (ia:=5) (ir:=5) rfl rfl (ha.pos.y.mono (by decide))) (ae (oS (ia:=6) (ir:=6) rfl rfl (ha.pos.z.mono (by decide))) ah)))))))
  ai Tryz.func97 (by kernel_rfl) ⟨(ag (xs:=aaw a) (ks:=[0,1,2,3,4,5,6]) (vs:=a.cs) ⟨rfl,rfl,rfl,rfl,rfl,rfl,rfl,trivial⟩).2 ia,trivial⟩).mono ?_
 rintro e w' ⟨v,rfl,h1,h2⟩
 exact⟨v,rfl,(ag (xs:=aaw a) (ks:=[0,1,2,3,4,5,6]) (vs:=a.cs) ⟨rfl,rfl,rfl,rfl,rfl,rfl,rfl,trivial⟩).1 h1,h2⟩
end Go.Proofs.YtggfmklppkioeaaGreat
namespace Go.Proofs.YtggfmklppkioeaaGreat
set_option linter.unusedSimpArgs false
set_option linter.unusedVariables false
set_option maxRecDepth 100000
open Go.RowKit
open Go.ChangeShapes Go.WideShapes Go.ChangeAt Go.RowKit
section
variable {H:Type} {enc:TypeId×Value→H} {W:World}
theorem sK:∀ {rs:List Rq} {cs:List Value} {j:Nat} {q:Vp},bq W rs cs→(uo rs)[j]? =some q→∃u,cs[j]? =some u∧q.p W u∧∀g,¬q.fp W u g
 | [],_,_,_,_,h=>by simp[uo]at h
 | r::rs,cs,j,q,hc,h=>by
  obtain⟨a,c,b,d,cs',rfl,h1,h2,h3⟩:=hc
  simp only[uo,List.flatMap_cons]at h
  match j,h with
  | 0,h=>simp at h;subst h;exact⟨_,rfl,⟨rfl,bJ⟩,fun _ h=>h⟩
  | 1,h=>simp at h;subst h;exact⟨_,rfl,h1,fun _ h=>h⟩
  | 2,h=>simp at h;subst h;exact⟨_,rfl,h2,fun _ h=>h⟩
  | j+3,h=>
   obtain⟨u,k1,k2⟩:=sK (rs:=rs) (cs:=cs') (j:=j) (q:=q) h3 (by simpa [uo]using h)
   exact⟨u,by simpa using k1,k2⟩
end
end Go.Proofs.YtggfmklppkioeaaGreat
