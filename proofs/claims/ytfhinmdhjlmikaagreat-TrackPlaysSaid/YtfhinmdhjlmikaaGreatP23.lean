/- The law what a track does, whatever is done to it. What an argument of type api.Nat is: a row of digits. What arguments of the types api.Pose, api.Vec, api.Frac are: rows of fractions, leading zeros allowed, no longer than the argument's bulk. What arguments of the type []api.Stamped are: rows of stamps, leading zeros allowed. What arguments of the type []api.Stamped are: rows of stamps. What arguments of the type []roboticslaw27.Op are: rows of operations. -/
import Derived.Test.YtfhinmdhjlmikaaGreatP22
import Derived.WalkKit
import Derived.ProofKit
import Derived.OpenShut
import Derived.ShutString
import Derived.ChangeOld
import Derived.Below
import Derived.Test.YtfhinmdhjlmikaaGreatRows
import Derived.SizedLaws
import Derived.Deep.Strs
import Derived.Deep.Slices
namespace Go.Proofs.YtfhinmdhjlmikaaGreat
set_option linter.unusedSimpArgs false
set_option linter.unusedVariables false
set_option maxRecDepth 100000
open Go.RowKit
def ft:MS:=cM 186 [(0,.v (.one (.ref 0))),(2,.v (.one (.b false))),(3,.v (.one (.i .i64 0)))] []
def d6:MS:=cM 186 [(0,.v (.one (.ref 0))),(2,.v (.one (.b false))),(3,.v (.one (.ref 1)))] []
def fu:MS:=cM 186 [(0,.v (.one (.ref 0))),(2,.v (.one (.b false))),(4,.v (.one (.ptr 0 0))),(5,.v (.one (.ptr 1 0))),(6,.v (.one (.i .i64 0)))] [(79,[some (.own 0 3)]),(86,[some (.own 1 3)])]
def fv:MS:=cM 186 [(0,.v (.one (.ref 0))),(2,.v (.one (.b false))),(4,.v (.one (.ptr 0 0))),(5,.v (.one (.ptr 1 0)))] [(79,[some (.own 0 4)]),(86,[some (.own 1 5)])]
def bB (R:List ROp) (v:Value):List Fq:=[]
theorem pL {w:World} (R:List ROp) (v:Value) (hR:(Vp.rowW R.length (cZ R)).p w v) (ht:∀o∈R,o.x.tw=true) (hl:R.length≤80):
  Calls Tryz.prog 7 #[v] w fun e w'=>bH w (.bool true) e w':=by
 have hL0:LOb.Ok Tryz.prog (frs (bB R v)++(([.rowW R.length (cZ R)]:List Vp)++(([.val (.int .i64 ((R.length:Nat):Int)),.val (.int .i64 (R.length:Int)),.row stT ([]:List St).length (az ([]:List St))]:List Vp)++(([.row stT (aN R R.length).length (az (aN R R.length)),.row stT (aN R R.length).length (az (aN R R.length)),.ownr stT 22 (aN R R.length).length (az (aN R R.length))]:List Vp))))) (Ent.of w) 186 ⟨bk Tryz.f7 0,ft,.ext 0,d6⟩:=by
  refine bx R.length (fun k=>frs (bB R v)++(([.rowW R.length (cZ R)]:List Vp)++(([.val (.int .i64 ((k:Nat):Int))]:List Vp)))) (fun _=>d6) ?_ ?_ ?_ (by decide) (Nat.zero_le _)
  ·intro a_ w_ h_
   exact MSt.conv (N:=1) (σ:=[(1,.i .i64 0)]) (cmP (by kernel_rfl)) (aD (sgi (n:=1) (u:=0) (v:=((0:Nat):Int)) rfl (aF (c:=0)) (by omega)) aP) (by kernel_rfl) h_ (Nat.zero_le _)
  ·intro k hk
   obtain⟨y_,hy⟩:∃x,R[k]? =some x:=⟨_,List.getElem?_eq_getElem (by omega)⟩
   refine aV (N:=2) (ρx:=frs (bB R v)++(([.rowW R.length (cZ R)]:List Vp)++(([.val (.int .i64 ((k:Nat):Int))]:List Vp)++(([.val (.int .i64 (R.length:Int)),.plcW y_.qs,.plcW y_.x.qs,.plcW (mN y_.x.rs),.val (.int .i64 y_.x.tm),.val (.bool y_.x.r0.s),.dig y_.x.r0.L y_.x.r0.p,.dig y_.x.r0.N y_.x.r0.q,.val (.bool y_.x.r1.s),.dig y_.x.r1.L y_.x.r1.p,.dig y_.x.r1.N y_.x.r1.q,.val (.bool y_.x.r2.s),.dig y_.x.r2.L y_.x.r2.p,.dig y_.x.r2.N y_.x.r2.q,.val (.bool y_.x.r3.s),.dig y_.x.r3.L y_.x.r3.p,.dig y_.x.r3.N y_.x.r3.q,.val (.bool y_.x.r4.s),.dig y_.x.r4.L y_.x.r4.p,.dig y_.x.r4.N y_.x.r4.q,.val (.bool y_.x.r5.s),.dig y_.x.r5.L y_.x.r5.p,.dig y_.x.r5.N y_.x.r5.q,.val (.bool y_.x.r6.s),.dig y_.x.r6.L y_.x.r6.p,.dig y_.x.r6.N y_.x.r6.q,.val (.int .i64 (((k:Nat):Int)+1))]:List Vp))))) (cmX (by kernel_rfl)) (by kernel_rfl) (Nat.zero_le _) ?_
   exact aR (N:=1) (σ:=[(1,.ref 28)]) (lo:=[]) (n:=300) (af (uh (ns:=[7,10,13,16,19,22,25]) (x:=y_.x) (b:=true) ⟨⟨rfl,rfl,rfl⟩,⟨rfl,rfl,rfl⟩,⟨rfl,rfl,rfl⟩,⟨rfl,rfl,rfl⟩,⟨rfl,rfl,rfl⟩,⟨rfl,rfl,rfl⟩,⟨rfl,rfl,rfl⟩,trivial⟩ (ht y_ (List.mem_of_getElem? hy))) ai)
    (ae (dW (n:=0) (m:=2) R rfl rfl) (ae (aw (t:=3) (ah (n:=1) rfl) (ah (n:=2) rfl) (aL (by omega))) (ae (aw (t:=3) (ah (n:=1) rfl) (aF (c:=80)) (cW (by omega))) (ae (mg (n:=0) (m:=3) (k:=k) R y_ rfl rfl (aU (ah (n:=1) rfl) (by omega)) hy) (ae (iU (n:=3) (m:=4) y_ rfl rfl) (ae (po (n:=4) (m:=5) (t:=35) (f:=1) (off:=1) (sz:=20) (by kernel_rfl) rfl rfl (hr1 (x:=y_.x))) (ae (iS (n:=5) (t:=33) (ls:=bo [7,10,13,16,19,22,25]) (by kernel_rfl) (by kernel_rfl) rfl (gI (rs:=y_.x.rs) ⟨⟨rfl,rfl,rfl⟩,⟨rfl,rfl,rfl⟩,⟨rfl,rfl,rfl⟩,⟨rfl,rfl,rfl⟩,⟨rfl,rfl,rfl⟩,⟨rfl,rfl,rfl⟩,⟨rfl,rfl,rfl⟩,trivial⟩)) (ae (cS (m:=28) (t:=3) (ah (n:=1) rfl) (aF (c:=1)) rfl rfl (by omega) (by omega)) (aj)))))))))
    (by kernel_rfl) (obs:=[]) (by kernel_rfl) aC (cmP (by kernel_rfl)) (aD (sgi (n:=1) (u:=(((k:Nat):Int)+1)) (v:=((k+1:Nat):Int)) rfl (ah (n:=28) rfl) (by omega)) aP) (Nat.zero_le _)
  ·refine aV (N:=2) (ρx:=frs (bB R v)++(([.rowW R.length (cZ R)]:List Vp)++(([.val (.int .i64 ((R.length:Nat):Int))]:List Vp)++(([.val (.int .i64 (R.length:Int))]:List Vp))))) (cmX (by kernel_rfl)) (by kernel_rfl) (Nat.zero_le _) ?_
   exact aR (N:=1) (σ:=[(1,.ref 1)]) (lo:=[]) (n:=300) (ai)
    (ae (dW (n:=0) (m:=2) R rfl rfl) (ae (aw (t:=3) (ah (n:=1) rfl) (ah (n:=2) rfl) (aK (by omega))) (aj)))
    (by kernel_rfl) (obs:=[]) (by kernel_rfl) aC (cmP (by kernel_rfl)) (aD (sgi (n:=1) (u:=((R.length:Nat):Int)) (v:=((R.length:Nat):Int)) rfl (ah (n:=1) rfl) (by omega)) aP) (Nat.zero_le _)
 have hL1:LOb.Ok Tryz.prog (frs (bB R v)++(([.rowW R.length (cZ R)]:List Vp)++(([.val (.int .i64 ((R.length:Nat):Int)),.val (.int .i64 (R.length:Int)),.row stT ([]:List St).length (az ([]:List St))]:List Vp)++(([.row stT (aN R R.length).length (az (aN R R.length)),.row stT (aN R R.length).length (az (aN R R.length)),.ownr stT 22 (aN R R.length).length (az (aN R R.length))]:List Vp))))) (Ent.of w) 186 ⟨bk Tryz.f7 1,fu,.ext 2,fv⟩:=by
  refine bx R.length (fun k=>frs (bB R v)++(([.rowW R.length (cZ R)]:List Vp)++(([.val (.int .i64 ((R.length:Nat):Int)),.val (.int .i64 (R.length:Int)),.row stT ([]:List St).length (az ([]:List St))]:List Vp)++(([.val (.int .i64 ((k:Nat):Int)),.row stT (aN R (k)).length (az (aN R (k))),.row stT (aN R (k)).length (az (aN R (k)))]:List Vp))))) (fun _=>cM 186 [(0,.v (.one (.ref 0))),(2,.v (.one (.b false))),(4,.v (.one (.ptr 0 0))),(5,.v (.one (.ptr 1 0))),(6,.v (.one (.ref 4)))] [(79,[some (.own 0 5)]),(86,[some (.own 1 6)])]) ?_ ?_ ?_ (by decide) (Nat.zero_le _)
  ·intro a_ w_ h_
   exact MSt.conv (N:=4) (σ:=[(4,.i .i64 0),(5,.own 0 3),(6,.own 1 3)]) (l9 (by kernel_rfl)) (aD (sgi (n:=4) (u:=0) (v:=((0:Nat):Int)) rfl (aF (c:=0)) (by omega)) (aD (sgr (n:=5) (m:=3) (k:=0) rfl rfl (by rfl)) (aD (sgr (n:=6) (m:=3) (k:=1) rfl rfl (by rfl)) aP))) (by kernel_rfl) h_ (Nat.zero_le _)
  ·intro k hk
   obtain⟨o,ho⟩:∃x,R[k]? =some x:=⟨_,List.getElem?_eq_getElem (by omega)⟩
   have hG:=gl ht k (by omega)
   have hs:=pA ho
   have h2x:=RSt.tw_iff.1 (ht o (List.mem_of_getElem? ho))
   have hGl:=hG.len
   have hdl:=fun d=>List.length_drop (i:=d) (l:=aN R k)
   rcases play_or hG o with h1 | ⟨h2,z,y,c,hr,hc⟩ | ⟨h2,z,y,hr⟩ | ⟨h1,h2⟩
   ·have hst:(List.drop (plN (aN R (k)) (o.x.tm+1) - 1) (aN R (k)))=aN R (k+1):=by rw[hs];unfold np;rw[if_pos h1]
    refine aV (N:=7) (ρx:=frs (bB R v)++(([.rowW R.length (cZ R)]:List Vp)++(([.val (.int .i64 ((R.length:Nat):Int)),.val (.int .i64 (R.length:Int)),.row stT ([]:List St).length (az ([]:List St))]:List Vp)++(([.val (.int .i64 ((k:Nat):Int)),.row stT (aN R (k)).length (az (aN R (k))),.row stT (aN R (k)).length (az (aN R (k)))]:List Vp)++(([.plcW o.qs,.plcW o.x.qs,.val (.int .i64 o.x.tm),.val (.bool o.x.r0.s),.dig o.x.r0.L o.x.r0.p,.dig o.x.r0.N o.x.r0.q,.val (.bool o.x.r1.s),.dig o.x.r1.L o.x.r1.p,.dig o.x.r1.N o.x.r1.q,.val (.bool o.x.r2.s),.dig o.x.r2.L o.x.r2.p,.dig o.x.r2.N o.x.r2.q,.val (.bool o.x.r3.s),.dig o.x.r3.L o.x.r3.p,.dig o.x.r3.N o.x.r3.q,.val (.bool o.x.r4.s),.dig o.x.r4.L o.x.r4.p,.dig o.x.r4.N o.x.r4.q,.val (.bool o.x.r5.s),.dig o.x.r5.L o.x.r5.p,.dig o.x.r5.N o.x.r5.q,.val (.bool o.x.r6.s),.dig o.x.r6.L o.x.r6.p,.dig o.x.r6.N o.x.r6.q,.val (.int .u8 o.k),.val (.int .u8 o.r),.row stT (List.drop (plN (aN R (k)) (o.x.tm+1) - 1) (aN R (k))).length (az (List.drop (plN (aN R (k)) (o.x.tm+1) - 1) (aN R (k)))),.val (.int .i64 ((plN (aN R (k)) (o.x.tm+1) - 1:Nat):Int)),.val (.int .i64 ((cY (List.drop (plN (aN R (k)) (o.x.tm+1) - 1) (aN R (k)))).1)),.val (.int .i64 ((cY (List.drop (plN (aN R (k)) (o.x.tm+1) - 1) (aN R (k)))).2.1)),.val (.bool (cY (List.drop (plN (aN R (k)) (o.x.tm+1) - 1) (aN R (k)))).2.2),.val (.int .i64 ((List.drop (plN (aN R (k)) (o.x.tm+1) - 1) (aN R (k))).length:Int)),.val (.int .i64 (((k:Nat):Int)+1))]:List Vp)))))) (pf (by kernel_rfl)) (by kernel_rfl) (Nat.zero_le _) ?_
    exact aR (N:=4) (σ:=[(4,.ref 39),(5,.own 0 33),(6,.own 1 33)]) (lo:=[]) (n:=300) (ai)
     (ae (dW (n:=0) (m:=2) R rfl rfl) (ae (aw (t:=3) (ah (n:=4) rfl) (ah (n:=2) rfl) (aL (by omega))) (ae (mg (n:=0) (m:=7) (k:=k) R o rfl rfl (aU (ah (n:=4) rfl) (by omega)) ho) (ae (iU (n:=7) (m:=8) o rfl rfl) (ae (iS (n:=8) (t:=35) (ls:=.ref 9::bo [10,13,16,19,22,25,28]) (by kernel_rfl) (by kernel_rfl) rfl (j7 (x:=o.x) rfl ⟨⟨rfl,rfl,rfl⟩,⟨rfl,rfl,rfl⟩,⟨rfl,rfl,rfl⟩,⟨rfl,rfl,rfl⟩,⟨rfl,rfl,rfl⟩,⟨rfl,rfl,rfl⟩,⟨rfl,rfl,rfl⟩,trivial⟩)) (ae (sc (n:=7) o rfl) (ae (sd (n:=7) (m:=31) o rfl rfl) (ae (se (n:=31) (m:=32) o rfl rfl) (ae (aw (t:=5) (ah (n:=32) rfl) (aF (c:=1)) (cF (by omega))) (ae (I_tDrop (u:=0) (k:=0) (m:=5) (m':=33) (S:=(aN R (k))) (a:=o.x.tm) (c:=34) (r:=.one .sl0) rfl rfl (ah (n:=9) rfl) hG rfl) (ae (I_rtDrop (u:=1) (k:=1) (m:=6) (m':=33) (S:=(aN R (k))) (a:=o.x.tm) (c:=34) (r:=.one .sl0) rfl rfl (ah (n:=9) rfl) hG rfl) (ae (aw (t:=3) (ah (n:=34) rfl) (ah (n:=34) rfl) (cz (by omega))) (ae (mh (u:=0) (l:=.own 0 33) (S:=(List.drop (plN (aN R (k)) (o.x.tm+1) - 1) (aN R (k)))) (n:=35) (n0:=36) (n1:=37) (r:=.one .sl0) (fk (m:=33) rfl) (hG.drop _) rfl rfl rfl) (ae (jW (u:=1) (l:=.own 1 33) (S:=(List.drop (plN (aN R (k)) (o.x.tm+1) - 1) (aN R (k)))) (n:=35) (n0:=36) (n1:=37) (r:=.one .sl0) (fk (m:=33) rfl) (hG.drop _) rfl rfl rfl) (ae (aw (t:=3) (ah (n:=35) rfl) (ah (n:=35) rfl) (cz (by omega))) (ae (aw (t:=3) (ah (n:=36) rfl) (ah (n:=36) rfl) (cz (by omega))) (ae (jX (n0:=37) (n1:=37) rfl rfl) (ae (sb (u:=0) (l:=.own 0 33) (S:=(List.drop (plN (aN R (k)) (o.x.tm+1) - 1) (aN R (k)))) (n:=38) (r:=.one .sl0) (fk (m:=33) rfl) (hG.drop _) rfl) (ae (n4 (u:=1) (l:=.own 1 33) (S:=(List.drop (plN (aN R (k)) (o.x.tm+1) - 1) (aN R (k)))) (n:=38) (r:=.one .sl0) (fk (m:=33) rfl) (hG.drop _) rfl) (ae (aw (t:=3) (ah (n:=38) rfl) (ah (n:=38) rfl) (cz (by omega))) (ae (cS (m:=39) (t:=3) (ah (n:=4) rfl) (aF (c:=1)) rfl rfl (by omega) (by omega)) (aj))))))))))))))))))))))
     (by kernel_rfl) (obs:=[]) (by kernel_rfl) aC (l9 (by kernel_rfl)) (aD (sgi (n:=4) (u:=(((k:Nat):Int)+1)) (v:=((k+1:Nat):Int)) rfl (ah (n:=39) rfl) (by omega)) (aD (sgr (n:=5) (m:=33) (k:=0) rfl rfl hst) (aD (sgr (n:=6) (m:=33) (k:=1) rfl rfl hst) aP))) (Nat.zero_le _)
   ·have hst:(aN R (k))=aN R (k+1):=by rw[hs];unfold np;rw[if_neg (by omega),if_pos h2]
    refine aV (N:=7) (ρx:=frs (bB R v)++(([.rowW R.length (cZ R)]:List Vp)++(([.val (.int .i64 ((R.length:Nat):Int)),.val (.int .i64 (R.length:Int)),.row stT ([]:List St).length (az ([]:List St))]:List Vp)++(([.val (.int .i64 ((k:Nat):Int)),.row stT (aN R (k)).length (az (aN R (k))),.row stT (aN R (k)).length (az (aN R (k)))]:List Vp)++(([.plcW o.qs,.plcW o.x.qs,.val (.int .i64 o.x.tm),.val (.bool o.x.r0.s),.dig o.x.r0.L o.x.r0.p,.dig o.x.r0.N o.x.r0.q,.val (.bool o.x.r1.s),.dig o.x.r1.L o.x.r1.p,.dig o.x.r1.N o.x.r1.q,.val (.bool o.x.r2.s),.dig o.x.r2.L o.x.r2.p,.dig o.x.r2.N o.x.r2.q,.val (.bool o.x.r3.s),.dig o.x.r3.L o.x.r3.p,.dig o.x.r3.N o.x.r3.q,.val (.bool o.x.r4.s),.dig o.x.r4.L o.x.r4.p,.dig o.x.r4.N o.x.r4.q,.val (.bool o.x.r5.s),.dig o.x.r5.L o.x.r5.p,.dig o.x.r5.N o.x.r5.q,.val (.bool o.x.r6.s),.dig o.x.r6.L o.x.r6.p,.dig o.x.r6.N o.x.r6.q,.val (.int .u8 o.k),.val (.int .u8 o.r),.val (.int .i64 z.tm),.val (.bool z.pose.rot.w.s),.dig (nl z.pose.rot.w.p) z.pose.rot.w.p,.dig (nl z.pose.rot.w.q) z.pose.rot.w.q,.val (.bool z.pose.rot.x.s),.dig (nl z.pose.rot.x.p) z.pose.rot.x.p,.dig (nl z.pose.rot.x.q) z.pose.rot.x.q,.val (.bool z.pose.rot.y.s),.dig (nl z.pose.rot.y.p) z.pose.rot.y.p,.dig (nl z.pose.rot.y.q) z.pose.rot.y.q,.val (.bool z.pose.rot.z.s),.dig (nl z.pose.rot.z.p) z.pose.rot.z.p,.dig (nl z.pose.rot.z.q) z.pose.rot.z.q,.val (.bool z.pose.pos.x.s),.dig (nl z.pose.pos.x.p) z.pose.pos.x.p,.dig (nl z.pose.pos.x.q) z.pose.pos.x.q,.val (.bool z.pose.pos.y.s),.dig (nl z.pose.pos.y.p) z.pose.pos.y.p,.dig (nl z.pose.pos.y.q) z.pose.pos.y.q,.val (.bool z.pose.pos.z.s),.dig (nl z.pose.pos.z.p) z.pose.pos.z.p,.dig (nl z.pose.pos.z.q) z.pose.pos.z.q,.val (.int .i64 y.tm),.val (.bool y.pose.rot.w.s),.dig (nl y.pose.rot.w.p) y.pose.rot.w.p,.dig (nl y.pose.rot.w.q) y.pose.rot.w.q,.val (.bool y.pose.rot.x.s),.dig (nl y.pose.rot.x.p) y.pose.rot.x.p,.dig (nl y.pose.rot.x.q) y.pose.rot.x.q,.val (.bool y.pose.rot.y.s),.dig (nl y.pose.rot.y.p) y.pose.rot.y.p,.dig (nl y.pose.rot.y.q) y.pose.rot.y.q,.val (.bool y.pose.rot.z.s),.dig (nl y.pose.rot.z.p) y.pose.rot.z.p,.dig (nl y.pose.rot.z.q) y.pose.rot.z.q,.val (.bool y.pose.pos.x.s),.dig (nl y.pose.pos.x.p) y.pose.pos.x.p,.dig (nl y.pose.pos.x.q) y.pose.pos.x.q,.val (.bool y.pose.pos.y.s),.dig (nl y.pose.pos.y.p) y.pose.pos.y.p,.dig (nl y.pose.pos.y.q) y.pose.pos.y.q,.val (.bool y.pose.pos.z.s),.dig (nl y.pose.pos.z.p) y.pose.pos.z.p,.dig (nl y.pose.pos.z.q) y.pose.pos.z.q,.val (.int .i64 c),.val (.bool z.pose.rot.w.s),.dig (nl z.pose.rot.w.p) z.pose.rot.w.p,.dig (nl z.pose.rot.w.q) z.pose.rot.w.q,.val (.bool z.pose.rot.x.s),.dig (nl z.pose.rot.x.p) z.pose.rot.x.p,.dig (nl z.pose.rot.x.q) z.pose.rot.x.q,.val (.bool z.pose.rot.y.s),.dig (nl z.pose.rot.y.p) z.pose.rot.y.p,.dig (nl z.pose.rot.y.q) z.pose.rot.y.q,.val (.bool z.pose.rot.z.s),.dig (nl z.pose.rot.z.p) z.pose.rot.z.p,.dig (nl z.pose.rot.z.q) z.pose.rot.z.q,.val (.bool z.pose.pos.x.s),.dig (nl z.pose.pos.x.p) z.pose.pos.x.p,.dig (nl z.pose.pos.x.q) z.pose.pos.x.q,.val (.bool z.pose.pos.y.s),.dig (nl z.pose.pos.y.p) z.pose.pos.y.p,.dig (nl z.pose.pos.y.q) z.pose.pos.y.q,.val (.bool z.pose.pos.z.s),.dig (nl z.pose.pos.z.p) z.pose.pos.z.p,.dig (nl z.pose.pos.z.q) z.pose.pos.z.q,.val (.bool y.pose.rot.w.s),.dig (nl y.pose.rot.w.p) y.pose.rot.w.p,.dig (nl y.pose.rot.w.q) y.pose.rot.w.q,.val (.bool y.pose.rot.x.s),.dig (nl y.pose.rot.x.p) y.pose.rot.x.p,.dig (nl y.pose.rot.x.q) y.pose.rot.x.q,.val (.bool y.pose.rot.y.s),.dig (nl y.pose.rot.y.p) y.pose.rot.y.p,.dig (nl y.pose.rot.y.q) y.pose.rot.y.q,.val (.bool y.pose.rot.z.s),.dig (nl y.pose.rot.z.p) y.pose.rot.z.p,.dig (nl y.pose.rot.z.q) y.pose.rot.z.q,.val (.bool y.pose.pos.x.s),.dig (nl y.pose.pos.x.p) y.pose.pos.x.p,.dig (nl y.pose.pos.x.q) y.pose.pos.x.q,.val (.bool y.pose.pos.y.s),.dig (nl y.pose.pos.y.p) y.pose.pos.y.p,.dig (nl y.pose.pos.y.q) y.pose.pos.y.q,.val (.bool y.pose.pos.z.s),.dig (nl y.pose.pos.z.p) y.pose.pos.z.p,.dig (nl y.pose.pos.z.q) y.pose.pos.z.q,.val (.int .i64 (aS (atP z y c o.x.tm)).tm),.val (.bool (aS (atP z y c o.x.tm)).pose.rot.w.s),.dig (nl (aS (atP z y c o.x.tm)).pose.rot.w.p) (aS (atP z y c o.x.tm)).pose.rot.w.p,.dig (nl (aS (atP z y c o.x.tm)).pose.rot.w.q) (aS (atP z y c o.x.tm)).pose.rot.w.q,.val (.bool (aS (atP z y c o.x.tm)).pose.rot.x.s),.dig (nl (aS (atP z y c o.x.tm)).pose.rot.x.p) (aS (atP z y c o.x.tm)).pose.rot.x.p,.dig (nl (aS (atP z y c o.x.tm)).pose.rot.x.q) (aS (atP z y c o.x.tm)).pose.rot.x.q,.val (.bool (aS (atP z y c o.x.tm)).pose.rot.y.s),.dig (nl (aS (atP z y c o.x.tm)).pose.rot.y.p) (aS (atP z y c o.x.tm)).pose.rot.y.p,.dig (nl (aS (atP z y c o.x.tm)).pose.rot.y.q) (aS (atP z y c o.x.tm)).pose.rot.y.q,.val (.bool (aS (atP z y c o.x.tm)).pose.rot.z.s),.dig (nl (aS (atP z y c o.x.tm)).pose.rot.z.p) (aS (atP z y c o.x.tm)).pose.rot.z.p,.dig (nl (aS (atP z y c o.x.tm)).pose.rot.z.q) (aS (atP z y c o.x.tm)).pose.rot.z.q,.val (.bool (aS (atP z y c o.x.tm)).pose.pos.x.s),.dig (nl (aS (atP z y c o.x.tm)).pose.pos.x.p) (aS (atP z y c o.x.tm)).pose.pos.x.p,.dig (nl (aS (atP z y c o.x.tm)).pose.pos.x.q) (aS (atP z y c o.x.tm)).pose.pos.x.q,.val (.bool (aS (atP z y c o.x.tm)).pose.pos.y.s),.dig (nl (aS (atP z y c o.x.tm)).pose.pos.y.p) (aS (atP z y c o.x.tm)).pose.pos.y.p,.dig (nl (aS (atP z y c o.x.tm)).pose.pos.y.q) (aS (atP z y c o.x.tm)).pose.pos.y.q,.val (.bool (aS (atP z y c o.x.tm)).pose.pos.z.s),.dig (nl (aS (atP z y c o.x.tm)).pose.pos.z.p) (aS (atP z y c o.x.tm)).pose.pos.z.p,.dig (nl (aS (atP z y c o.x.tm)).pose.pos.z.q) (aS (atP z y c o.x.tm)).pose.pos.z.q,.val (.bool (aS (atP z y c o.x.tm)).pose.rot.w.s),.dig (nl (aS (atP z y c o.x.tm)).pose.rot.w.p) (aS (atP z y c o.x.tm)).pose.rot.w.p,.dig (nl (aS (atP z y c o.x.tm)).pose.rot.w.q) (aS (atP z y c o.x.tm)).pose.rot.w.q,.val (.bool (aS (atP z y c o.x.tm)).pose.rot.x.s),.dig (nl (aS (atP z y c o.x.tm)).pose.rot.x.p) (aS (atP z y c o.x.tm)).pose.rot.x.p,.dig (nl (aS (atP z y c o.x.tm)).pose.rot.x.q) (aS (atP z y c o.x.tm)).pose.rot.x.q,.val (.bool (aS (atP z y c o.x.tm)).pose.rot.y.s),.dig (nl (aS (atP z y c o.x.tm)).pose.rot.y.p) (aS (atP z y c o.x.tm)).pose.rot.y.p,.dig (nl (aS (atP z y c o.x.tm)).pose.rot.y.q) (aS (atP z y c o.x.tm)).pose.rot.y.q,.val (.bool (aS (atP z y c o.x.tm)).pose.rot.z.s),.dig (nl (aS (atP z y c o.x.tm)).pose.rot.z.p) (aS (atP z y c o.x.tm)).pose.rot.z.p,.dig (nl (aS (atP z y c o.x.tm)).pose.rot.z.q) (aS (atP z y c o.x.tm)).pose.rot.z.q,.val (.bool (aS (atP z y c o.x.tm)).pose.pos.x.s),.dig (nl (aS (atP z y c o.x.tm)).pose.pos.x.p) (aS (atP z y c o.x.tm)).pose.pos.x.p,.dig (nl (aS (atP z y c o.x.tm)).pose.pos.x.q) (aS (atP z y c o.x.tm)).pose.pos.x.q,.val (.bool (aS (atP z y c o.x.tm)).pose.pos.y.s),.dig (nl (aS (atP z y c o.x.tm)).pose.pos.y.p) (aS (atP z y c o.x.tm)).pose.pos.y.p,.dig (nl (aS (atP z y c o.x.tm)).pose.pos.y.q) (aS (atP z y c o.x.tm)).pose.pos.y.q,.val (.bool (aS (atP z y c o.x.tm)).pose.pos.z.s),.dig (nl (aS (atP z y c o.x.tm)).pose.pos.z.p) (aS (atP z y c o.x.tm)).pose.pos.z.p,.dig (nl (aS (atP z y c o.x.tm)).pose.pos.z.q) (aS (atP z y c o.x.tm)).pose.pos.z.q,.val (.int .i64 ((cY (aN R (k))).1)),.val (.int .i64 ((cY (aN R (k))).2.1)),.val (.bool (cY (aN R (k))).2.2),.val (.int .i64 ((aN R (k)).length:Int)),.val (.int .i64 (((k:Nat):Int)+1))]:List Vp)))))) (pf (by kernel_rfl)) (by kernel_rfl) (Nat.zero_le _) ?_
    exact aR (N:=4) (σ:=[(4,.ref 167),(5,.own 0 5),(6,.own 1 6)]) (lo:=[]) (n:=300) (ai)
     (ae (dW (n:=0) (m:=2) R rfl rfl) (ae (aw (t:=3) (ah (n:=4) rfl) (ah (n:=2) rfl) (aL (by omega))) (ae (mg (n:=0) (m:=7) (k:=k) R o rfl rfl (aU (ah (n:=4) rfl) (by omega)) ho) (ae (iU (n:=7) (m:=8) o rfl rfl) (ae (iS (n:=8) (t:=35) (ls:=.ref 9::bo [10,13,16,19,22,25,28]) (by kernel_rfl) (by kernel_rfl) rfl (j7 (x:=o.x) rfl ⟨⟨rfl,rfl,rfl⟩,⟨rfl,rfl,rfl⟩,⟨rfl,rfl,rfl⟩,⟨rfl,rfl,rfl⟩,⟨rfl,rfl,rfl⟩,⟨rfl,rfl,rfl⟩,⟨rfl,rfl,rfl⟩,trivial⟩)) (ae (sc (n:=7) o rfl) (ae (sd (n:=7) (m:=31) o rfl rfl) (ae (se (n:=31) (m:=32) o rfl rfl) (ae (aw (t:=5) (ah (n:=32) rfl) (aF (c:=1)) (a8 (by omega))) (ae (aw (t:=5) (ah (n:=32) rfl) (aF (c:=2)) (cF (by omega))) (ae (qE (u:=0) (l:=.own 0 5) (z:=z) (y:=y) (c:=c) (a:=o.x.tm) (lc:=.ref 77) (n0:=33) (k0:=[34,37,40,43,46,49,52]) (n1:=55) (k1:=[56,59,62,65,68,71,74]) (r:=.one .sl0) (fk (m:=5) rfl) (aU (ah (n:=9) rfl) (by omega)) hG hr rfl ⟨⟨rfl,rfl,rfl⟩,⟨rfl,rfl,rfl⟩,⟨rfl,rfl,rfl⟩,⟨rfl,rfl,rfl⟩,⟨rfl,rfl,rfl⟩,⟨rfl,rfl,rfl⟩,⟨rfl,rfl,rfl⟩,trivial⟩ rfl ⟨⟨rfl,rfl,rfl⟩,⟨rfl,rfl,rfl⟩,⟨rfl,rfl,rfl⟩,⟨rfl,rfl,rfl⟩,⟨rfl,rfl,rfl⟩,⟨rfl,rfl,rfl⟩,⟨rfl,rfl,rfl⟩,trivial⟩ (fun _ _=>aH rfl aE)) (ae (pz (u:=1) (l:=.own 1 6) (z:=z) (y:=y) (c:=c) (a:=o.x.tm) (lc:=.ref 77) (n0:=33) (k0:=[78,81,84,87,90,93,96]) (n1:=55) (k1:=[99,102,105,108,111,114,117]) (r:=.one .sl0) (fk (m:=6) rfl) (aU (ah (n:=9) rfl) (by omega)) hG hr rfl ⟨⟨rfl,rfl,rfl⟩,⟨rfl,rfl,rfl⟩,⟨rfl,rfl,rfl⟩,⟨rfl,rfl,rfl⟩,⟨rfl,rfl,rfl⟩,⟨rfl,rfl,rfl⟩,⟨rfl,rfl,rfl⟩,trivial⟩ rfl ⟨⟨rfl,rfl,rfl⟩,⟨rfl,rfl,rfl⟩,⟨rfl,rfl,rfl⟩,⟨rfl,rfl,rfl⟩,⟨rfl,rfl,rfl⟩,⟨rfl,rfl,rfl⟩,⟨rfl,rfl,rfl⟩,trivial⟩ (fun _ _=>aH rfl aE)) (ae (I_AtU (u:=0) (l:=.own 0 5) (z:=z) (y:=y) (c:=c) (a:=o.x.tm) (lc:=.ref 77) (ns:=[121,124,127,130,133,136,139]) (r:=.one .sl0) (fk (m:=5) rfl) (aU (ah (n:=9) rfl) (by omega)) hG hr ⟨⟨rfl,rfl,rfl⟩,⟨rfl,rfl,rfl⟩,⟨rfl,rfl,rfl⟩,⟨rfl,rfl,rfl⟩,⟨rfl,rfl,rfl⟩,⟨rfl,rfl,rfl⟩,⟨rfl,rfl,rfl⟩,trivial⟩ (fun _ _=>aH rfl aE)) (ae (I_rAtU (u:=1) (l:=.own 1 6) (z:=z) (y:=y) (c:=c) (a:=o.x.tm) (lc:=.ref 77) (ns:=[142,145,148,151,154,157,160]) (r:=.one .sl0) (fk (m:=6) rfl) (aU (ah (n:=9) rfl) (by omega)) hG hr ⟨⟨rfl,rfl,rfl⟩,⟨rfl,rfl,rfl⟩,⟨rfl,rfl,rfl⟩,⟨rfl,rfl,rfl⟩,⟨rfl,rfl,rfl⟩,⟨rfl,rfl,rfl⟩,⟨rfl,rfl,rfl⟩,trivial⟩ (fun _ _=>aH rfl aE)) (ae (aw (t:=40) (ah (n:=77) rfl) (ah (n:=77) rfl) (cz (by omega))) (ae (aw (t:=40) (ah (n:=77) rfl) (aF (c:=0)) (a8 (by omega))) (ae (mh (u:=0) (l:=.own 0 5) (S:=(aN R (k))) (n:=163) (n0:=164) (n1:=165) (r:=.one .sl0) (fk (m:=5) rfl) hG rfl rfl rfl) (ae (jW (u:=1) (l:=.own 1 6) (S:=(aN R (k))) (n:=163) (n0:=164) (n1:=165) (r:=.one .sl0) (fk (m:=6) rfl) hG rfl rfl rfl) (ae (aw (t:=3) (ah (n:=163) rfl) (ah (n:=163) rfl) (cz (by omega))) (ae (aw (t:=3) (ah (n:=164) rfl) (ah (n:=164) rfl) (cz (by omega))) (ae (jX (n0:=165) (n1:=165) rfl rfl) (ae (sb (u:=0) (l:=.own 0 5) (S:=(aN R (k))) (n:=166) (r:=.one .sl0) (fk (m:=5) rfl) hG rfl) (ae (n4 (u:=1) (l:=.own 1 6) (S:=(aN R (k))) (n:=166) (r:=.one .sl0) (fk (m:=6) rfl) hG rfl) (ae (aw (t:=3) (ah (n:=166) rfl) (ah (n:=166) rfl) (cz (by omega))) (ae (cS (m:=167) (t:=3) (ah (n:=4) rfl) (aF (c:=1)) rfl rfl (by omega) (by omega)) (aj))))))))))))))))))))))))))
     (by kernel_rfl) (obs:=[]) (by kernel_rfl) aC (l9 (by kernel_rfl)) (aD (sgi (n:=4) (u:=(((k:Nat):Int)+1)) (v:=((k+1:Nat):Int)) rfl (ah (n:=167) rfl) (by omega)) (aD (sgr (n:=5) (m:=5) (k:=0) rfl rfl hst) (aD (sgr (n:=6) (m:=6) (k:=1) rfl rfl hst) aP))) (Nat.zero_le _)
   ·have hst:(aN R (k))=aN R (k+1):=by rw[hs];unfold np;rw[if_neg (by omega),if_pos h2]
    refine aV (N:=7) (ρx:=frs (bB R v)++(([.rowW R.length (cZ R)]:List Vp)++(([.val (.int .i64 ((R.length:Nat):Int)),.val (.int .i64 (R.length:Int)),.row stT ([]:List St).length (az ([]:List St))]:List Vp)++(([.val (.int .i64 ((k:Nat):Int)),.row stT (aN R (k)).length (az (aN R (k))),.row stT (aN R (k)).length (az (aN R (k)))]:List Vp)++(([.plcW o.qs,.plcW o.x.qs,.val (.int .i64 o.x.tm),.val (.bool o.x.r0.s),.dig o.x.r0.L o.x.r0.p,.dig o.x.r0.N o.x.r0.q,.val (.bool o.x.r1.s),.dig o.x.r1.L o.x.r1.p,.dig o.x.r1.N o.x.r1.q,.val (.bool o.x.r2.s),.dig o.x.r2.L o.x.r2.p,.dig o.x.r2.N o.x.r2.q,.val (.bool o.x.r3.s),.dig o.x.r3.L o.x.r3.p,.dig o.x.r3.N o.x.r3.q,.val (.bool o.x.r4.s),.dig o.x.r4.L o.x.r4.p,.dig o.x.r4.N o.x.r4.q,.val (.bool o.x.r5.s),.dig o.x.r5.L o.x.r5.p,.dig o.x.r5.N o.x.r5.q,.val (.bool o.x.r6.s),.dig o.x.r6.L o.x.r6.p,.dig o.x.r6.N o.x.r6.q,.val (.int .u8 o.k),.val (.int .u8 o.r),.val (.int .i64 z.tm),.val (.bool z.pose.rot.w.s),.dig (nl z.pose.rot.w.p) z.pose.rot.w.p,.dig (nl z.pose.rot.w.q) z.pose.rot.w.q,.val (.bool z.pose.rot.x.s),.dig (nl z.pose.rot.x.p) z.pose.rot.x.p,.dig (nl z.pose.rot.x.q) z.pose.rot.x.q,.val (.bool z.pose.rot.y.s),.dig (nl z.pose.rot.y.p) z.pose.rot.y.p,.dig (nl z.pose.rot.y.q) z.pose.rot.y.q,.val (.bool z.pose.rot.z.s),.dig (nl z.pose.rot.z.p) z.pose.rot.z.p,.dig (nl z.pose.rot.z.q) z.pose.rot.z.q,.val (.bool z.pose.pos.x.s),.dig (nl z.pose.pos.x.p) z.pose.pos.x.p,.dig (nl z.pose.pos.x.q) z.pose.pos.x.q,.val (.bool z.pose.pos.y.s),.dig (nl z.pose.pos.y.p) z.pose.pos.y.p,.dig (nl z.pose.pos.y.q) z.pose.pos.y.q,.val (.bool z.pose.pos.z.s),.dig (nl z.pose.pos.z.p) z.pose.pos.z.p,.dig (nl z.pose.pos.z.q) z.pose.pos.z.q,.val (.int .i64 y.tm),.val (.bool y.pose.rot.w.s),.dig (nl y.pose.rot.w.p) y.pose.rot.w.p,.dig (nl y.pose.rot.w.q) y.pose.rot.w.q,.val (.bool y.pose.rot.x.s),.dig (nl y.pose.rot.x.p) y.pose.rot.x.p,.dig (nl y.pose.rot.x.q) y.pose.rot.x.q,.val (.bool y.pose.rot.y.s),.dig (nl y.pose.rot.y.p) y.pose.rot.y.p,.dig (nl y.pose.rot.y.q) y.pose.rot.y.q,.val (.bool y.pose.rot.z.s),.dig (nl y.pose.rot.z.p) y.pose.rot.z.p,.dig (nl y.pose.rot.z.q) y.pose.rot.z.q,.val (.bool y.pose.pos.x.s),.dig (nl y.pose.pos.x.p) y.pose.pos.x.p,.dig (nl y.pose.pos.x.q) y.pose.pos.x.q,.val (.bool y.pose.pos.y.s),.dig (nl y.pose.pos.y.p) y.pose.pos.y.p,.dig (nl y.pose.pos.y.q) y.pose.pos.y.q,.val (.bool y.pose.pos.z.s),.dig (nl y.pose.pos.z.p) y.pose.pos.z.p,.dig (nl y.pose.pos.z.q) y.pose.pos.z.q,.val (.bool z.pose.rot.w.s),.dig (nl z.pose.rot.w.p) z.pose.rot.w.p,.dig (nl z.pose.rot.w.q) z.pose.rot.w.q,.val (.bool z.pose.rot.x.s),.dig (nl z.pose.rot.x.p) z.pose.rot.x.p,.dig (nl z.pose.rot.x.q) z.pose.rot.x.q,.val (.bool z.pose.rot.y.s),.dig (nl z.pose.rot.y.p) z.pose.rot.y.p,.dig (nl z.pose.rot.y.q) z.pose.rot.y.q,.val (.bool z.pose.rot.z.s),.dig (nl z.pose.rot.z.p) z.pose.rot.z.p,.dig (nl z.pose.rot.z.q) z.pose.rot.z.q,.val (.bool z.pose.pos.x.s),.dig (nl z.pose.pos.x.p) z.pose.pos.x.p,.dig (nl z.pose.pos.x.q) z.pose.pos.x.q,.val (.bool z.pose.pos.y.s),.dig (nl z.pose.pos.y.p) z.pose.pos.y.p,.dig (nl z.pose.pos.y.q) z.pose.pos.y.q,.val (.bool z.pose.pos.z.s),.dig (nl z.pose.pos.z.p) z.pose.pos.z.p,.dig (nl z.pose.pos.z.q) z.pose.pos.z.q,.val (.bool y.pose.rot.w.s),.dig (nl y.pose.rot.w.p) y.pose.rot.w.p,.dig (nl y.pose.rot.w.q) y.pose.rot.w.q,.val (.bool y.pose.rot.x.s),.dig (nl y.pose.rot.x.p) y.pose.rot.x.p,.dig (nl y.pose.rot.x.q) y.pose.rot.x.q,.val (.bool y.pose.rot.y.s),.dig (nl y.pose.rot.y.p) y.pose.rot.y.p,.dig (nl y.pose.rot.y.q) y.pose.rot.y.q,.val (.bool y.pose.rot.z.s),.dig (nl y.pose.rot.z.p) y.pose.rot.z.p,.dig (nl y.pose.rot.z.q) y.pose.rot.z.q,.val (.bool y.pose.pos.x.s),.dig (nl y.pose.pos.x.p) y.pose.pos.x.p,.dig (nl y.pose.pos.x.q) y.pose.pos.x.q,.val (.bool y.pose.pos.y.s),.dig (nl y.pose.pos.y.p) y.pose.pos.y.p,.dig (nl y.pose.pos.y.q) y.pose.pos.y.q,.val (.bool y.pose.pos.z.s),.dig (nl y.pose.pos.z.p) y.pose.pos.z.p,.dig (nl y.pose.pos.z.q) y.pose.pos.z.q,.val (.int .i64 (aS (atP z y 0 o.x.tm)).tm),.val (.bool (aS (atP z y 0 o.x.tm)).pose.rot.w.s),.dig (nl (aS (atP z y 0 o.x.tm)).pose.rot.w.p) (aS (atP z y 0 o.x.tm)).pose.rot.w.p,.dig (nl (aS (atP z y 0 o.x.tm)).pose.rot.w.q) (aS (atP z y 0 o.x.tm)).pose.rot.w.q,.val (.bool (aS (atP z y 0 o.x.tm)).pose.rot.x.s),.dig (nl (aS (atP z y 0 o.x.tm)).pose.rot.x.p) (aS (atP z y 0 o.x.tm)).pose.rot.x.p,.dig (nl (aS (atP z y 0 o.x.tm)).pose.rot.x.q) (aS (atP z y 0 o.x.tm)).pose.rot.x.q,.val (.bool (aS (atP z y 0 o.x.tm)).pose.rot.y.s),.dig (nl (aS (atP z y 0 o.x.tm)).pose.rot.y.p) (aS (atP z y 0 o.x.tm)).pose.rot.y.p,.dig (nl (aS (atP z y 0 o.x.tm)).pose.rot.y.q) (aS (atP z y 0 o.x.tm)).pose.rot.y.q,.val (.bool (aS (atP z y 0 o.x.tm)).pose.rot.z.s),.dig (nl (aS (atP z y 0 o.x.tm)).pose.rot.z.p) (aS (atP z y 0 o.x.tm)).pose.rot.z.p,.dig (nl (aS (atP z y 0 o.x.tm)).pose.rot.z.q) (aS (atP z y 0 o.x.tm)).pose.rot.z.q,.val (.bool (aS (atP z y 0 o.x.tm)).pose.pos.x.s),.dig (nl (aS (atP z y 0 o.x.tm)).pose.pos.x.p) (aS (atP z y 0 o.x.tm)).pose.pos.x.p,.dig (nl (aS (atP z y 0 o.x.tm)).pose.pos.x.q) (aS (atP z y 0 o.x.tm)).pose.pos.x.q,.val (.bool (aS (atP z y 0 o.x.tm)).pose.pos.y.s),.dig (nl (aS (atP z y 0 o.x.tm)).pose.pos.y.p) (aS (atP z y 0 o.x.tm)).pose.pos.y.p,.dig (nl (aS (atP z y 0 o.x.tm)).pose.pos.y.q) (aS (atP z y 0 o.x.tm)).pose.pos.y.q,.val (.bool (aS (atP z y 0 o.x.tm)).pose.pos.z.s),.dig (nl (aS (atP z y 0 o.x.tm)).pose.pos.z.p) (aS (atP z y 0 o.x.tm)).pose.pos.z.p,.dig (nl (aS (atP z y 0 o.x.tm)).pose.pos.z.q) (aS (atP z y 0 o.x.tm)).pose.pos.z.q,.val (.bool (aS (atP z y 0 o.x.tm)).pose.rot.w.s),.dig (nl (aS (atP z y 0 o.x.tm)).pose.rot.w.p) (aS (atP z y 0 o.x.tm)).pose.rot.w.p,.dig (nl (aS (atP z y 0 o.x.tm)).pose.rot.w.q) (aS (atP z y 0 o.x.tm)).pose.rot.w.q,.val (.bool (aS (atP z y 0 o.x.tm)).pose.rot.x.s),.dig (nl (aS (atP z y 0 o.x.tm)).pose.rot.x.p) (aS (atP z y 0 o.x.tm)).pose.rot.x.p,.dig (nl (aS (atP z y 0 o.x.tm)).pose.rot.x.q) (aS (atP z y 0 o.x.tm)).pose.rot.x.q,.val (.bool (aS (atP z y 0 o.x.tm)).pose.rot.y.s),.dig (nl (aS (atP z y 0 o.x.tm)).pose.rot.y.p) (aS (atP z y 0 o.x.tm)).pose.rot.y.p,.dig (nl (aS (atP z y 0 o.x.tm)).pose.rot.y.q) (aS (atP z y 0 o.x.tm)).pose.rot.y.q,.val (.bool (aS (atP z y 0 o.x.tm)).pose.rot.z.s),.dig (nl (aS (atP z y 0 o.x.tm)).pose.rot.z.p) (aS (atP z y 0 o.x.tm)).pose.rot.z.p,.dig (nl (aS (atP z y 0 o.x.tm)).pose.rot.z.q) (aS (atP z y 0 o.x.tm)).pose.rot.z.q,.val (.bool (aS (atP z y 0 o.x.tm)).pose.pos.x.s),.dig (nl (aS (atP z y 0 o.x.tm)).pose.pos.x.p) (aS (atP z y 0 o.x.tm)).pose.pos.x.p,.dig (nl (aS (atP z y 0 o.x.tm)).pose.pos.x.q) (aS (atP z y 0 o.x.tm)).pose.pos.x.q,.val (.bool (aS (atP z y 0 o.x.tm)).pose.pos.y.s),.dig (nl (aS (atP z y 0 o.x.tm)).pose.pos.y.p) (aS (atP z y 0 o.x.tm)).pose.pos.y.p,.dig (nl (aS (atP z y 0 o.x.tm)).pose.pos.y.q) (aS (atP z y 0 o.x.tm)).pose.pos.y.q,.val (.bool (aS (atP z y 0 o.x.tm)).pose.pos.z.s),.dig (nl (aS (atP z y 0 o.x.tm)).pose.pos.z.p) (aS (atP z y 0 o.x.tm)).pose.pos.z.p,.dig (nl (aS (atP z y 0 o.x.tm)).pose.pos.z.q) (aS (atP z y 0 o.x.tm)).pose.pos.z.q,.row stT [z,y].length (az [z,y]),.val (.int .i64 ((cY (aN R (k))).1)),.val (.int .i64 ((cY (aN R (k))).2.1)),.val (.bool (cY (aN R (k))).2.2),.val (.int .i64 ((aN R (k)).length:Int)),.val (.int .i64 (((k:Nat):Int)+1))]:List Vp)))))) (pf (by kernel_rfl)) (by kernel_rfl) (Nat.zero_le _) ?_
    exact aR (N:=4) (σ:=[(4,.ref 167),(5,.own 0 5),(6,.own 1 6)]) (lo:=[]) (n:=300) (af (I_SameT (n:=162) (m:=162) (S:=[z,y]) rfl rfl (by simp) (two_in hG hr)) (af (I_rpEqU (k0:=[120,123,126,129,132,135,138]) (k1:=[141,144,147,150,153,156,159]) (s:=(aS (atP z y 0 o.x.tm))) ⟨⟨rfl,rfl,rfl⟩,⟨rfl,rfl,rfl⟩,⟨rfl,rfl,rfl⟩,⟨rfl,rfl,rfl⟩,⟨rfl,rfl,rfl⟩,⟨rfl,rfl,rfl⟩,⟨rfl,rfl,rfl⟩,trivial⟩ ⟨⟨rfl,rfl,rfl⟩,⟨rfl,rfl,rfl⟩,⟨rfl,rfl,rfl⟩,⟨rfl,rfl,rfl⟩,⟨rfl,rfl,rfl⟩,⟨rfl,rfl,rfl⟩,⟨rfl,rfl,rfl⟩,trivial⟩ (r8 hG hr).2) ai))
     (ae (dW (n:=0) (m:=2) R rfl rfl) (ae (aw (t:=3) (ah (n:=4) rfl) (ah (n:=2) rfl) (aL (by omega))) (ae (mg (n:=0) (m:=7) (k:=k) R o rfl rfl (aU (ah (n:=4) rfl) (by omega)) ho) (ae (iU (n:=7) (m:=8) o rfl rfl) (ae (iS (n:=8) (t:=35) (ls:=.ref 9::bo [10,13,16,19,22,25,28]) (by kernel_rfl) (by kernel_rfl) rfl (j7 (x:=o.x) rfl ⟨⟨rfl,rfl,rfl⟩,⟨rfl,rfl,rfl⟩,⟨rfl,rfl,rfl⟩,⟨rfl,rfl,rfl⟩,⟨rfl,rfl,rfl⟩,⟨rfl,rfl,rfl⟩,⟨rfl,rfl,rfl⟩,trivial⟩)) (ae (sc (n:=7) o rfl) (ae (sd (n:=7) (m:=31) o rfl rfl) (ae (se (n:=31) (m:=32) o rfl rfl) (ae (aw (t:=5) (ah (n:=32) rfl) (aF (c:=1)) (a8 (by omega))) (ae (aw (t:=5) (ah (n:=32) rfl) (aF (c:=2)) (cF (by omega))) (ae (qE (u:=0) (l:=.own 0 5) (z:=z) (y:=y) (c:=0) (a:=o.x.tm) (lc:=.i .i64 0) (n0:=33) (k0:=[34,37,40,43,46,49,52]) (n1:=55) (k1:=[56,59,62,65,68,71,74]) (r:=.one .sl0) (fk (m:=5) rfl) (aU (ah (n:=9) rfl) (by omega)) hG hr rfl ⟨⟨rfl,rfl,rfl⟩,⟨rfl,rfl,rfl⟩,⟨rfl,rfl,rfl⟩,⟨rfl,rfl,rfl⟩,⟨rfl,rfl,rfl⟩,⟨rfl,rfl,rfl⟩,⟨rfl,rfl,rfl⟩,trivial⟩ rfl ⟨⟨rfl,rfl,rfl⟩,⟨rfl,rfl,rfl⟩,⟨rfl,rfl,rfl⟩,⟨rfl,rfl,rfl⟩,⟨rfl,rfl,rfl⟩,⟨rfl,rfl,rfl⟩,⟨rfl,rfl,rfl⟩,trivial⟩ (fun _ _=>rfl)) (ae (pz (u:=1) (l:=.own 1 6) (z:=z) (y:=y) (c:=0) (a:=o.x.tm) (lc:=.i .i64 0) (n0:=33) (k0:=[77,80,83,86,89,92,95]) (n1:=55) (k1:=[98,101,104,107,110,113,116]) (r:=.one .sl0) (fk (m:=6) rfl) (aU (ah (n:=9) rfl) (by omega)) hG hr rfl ⟨⟨rfl,rfl,rfl⟩,⟨rfl,rfl,rfl⟩,⟨rfl,rfl,rfl⟩,⟨rfl,rfl,rfl⟩,⟨rfl,rfl,rfl⟩,⟨rfl,rfl,rfl⟩,⟨rfl,rfl,rfl⟩,trivial⟩ rfl ⟨⟨rfl,rfl,rfl⟩,⟨rfl,rfl,rfl⟩,⟨rfl,rfl,rfl⟩,⟨rfl,rfl,rfl⟩,⟨rfl,rfl,rfl⟩,⟨rfl,rfl,rfl⟩,⟨rfl,rfl,rfl⟩,trivial⟩ (fun _ _=>rfl)) (ae (I_AtU (u:=0) (l:=.own 0 5) (z:=z) (y:=y) (c:=0) (a:=o.x.tm) (lc:=.i .i64 0) (ns:=[120,123,126,129,132,135,138]) (r:=.one .sl0) (fk (m:=5) rfl) (aU (ah (n:=9) rfl) (by omega)) hG hr ⟨⟨rfl,rfl,rfl⟩,⟨rfl,rfl,rfl⟩,⟨rfl,rfl,rfl⟩,⟨rfl,rfl,rfl⟩,⟨rfl,rfl,rfl⟩,⟨rfl,rfl,rfl⟩,⟨rfl,rfl,rfl⟩,trivial⟩ (fun _ _=>rfl)) (ae (I_rAtU (u:=1) (l:=.own 1 6) (z:=z) (y:=y) (c:=0) (a:=o.x.tm) (lc:=.i .i64 0) (ns:=[141,144,147,150,153,156,159]) (r:=.one .sl0) (fk (m:=6) rfl) (aU (ah (n:=9) rfl) (by omega)) hG hr ⟨⟨rfl,rfl,rfl⟩,⟨rfl,rfl,rfl⟩,⟨rfl,rfl,rfl⟩,⟨rfl,rfl,rfl⟩,⟨rfl,rfl,rfl⟩,⟨rfl,rfl,rfl⟩,⟨rfl,rfl,rfl⟩,trivial⟩ (fun _ _=>rfl)) (ae (o_bsR2 (n:=33) (k0:=[34,37,40,43,46,49,52]) (n':=55) (k1:=[56,59,62,65,68,71,74]) (m:=162) (z:=z) (y:=y) rfl ⟨⟨rfl,rfl,rfl⟩,⟨rfl,rfl,rfl⟩,⟨rfl,rfl,rfl⟩,⟨rfl,rfl,rfl⟩,⟨rfl,rfl,rfl⟩,⟨rfl,rfl,rfl⟩,⟨rfl,rfl,rfl⟩,trivial⟩ rfl ⟨⟨rfl,rfl,rfl⟩,⟨rfl,rfl,rfl⟩,⟨rfl,rfl,rfl⟩,⟨rfl,rfl,rfl⟩,⟨rfl,rfl,rfl⟩,⟨rfl,rfl,rfl⟩,⟨rfl,rfl,rfl⟩,trivial⟩ rfl) (ae (o_bsR2 (n:=33) (k0:=[77,80,83,86,89,92,95]) (n':=55) (k1:=[98,101,104,107,110,113,116]) (m:=162) (z:=z) (y:=y) rfl ⟨⟨rfl,rfl,rfl⟩,⟨rfl,rfl,rfl⟩,⟨rfl,rfl,rfl⟩,⟨rfl,rfl,rfl⟩,⟨rfl,rfl,rfl⟩,⟨rfl,rfl,rfl⟩,⟨rfl,rfl,rfl⟩,trivial⟩ rfl ⟨⟨rfl,rfl,rfl⟩,⟨rfl,rfl,rfl⟩,⟨rfl,rfl,rfl⟩,⟨rfl,rfl,rfl⟩,⟨rfl,rfl,rfl⟩,⟨rfl,rfl,rfl⟩,⟨rfl,rfl,rfl⟩,trivial⟩ rfl) (ae (mh (u:=0) (l:=.own 0 5) (S:=(aN R (k))) (n:=163) (n0:=164) (n1:=165) (r:=.one .sl0) (fk (m:=5) rfl) hG rfl rfl rfl) (ae (jW (u:=1) (l:=.own 1 6) (S:=(aN R (k))) (n:=163) (n0:=164) (n1:=165) (r:=.one .sl0) (fk (m:=6) rfl) hG rfl rfl rfl) (ae (aw (t:=3) (ah (n:=163) rfl) (ah (n:=163) rfl) (cz (by omega))) (ae (aw (t:=3) (ah (n:=164) rfl) (ah (n:=164) rfl) (cz (by omega))) (ae (jX (n0:=165) (n1:=165) rfl rfl) (ae (sb (u:=0) (l:=.own 0 5) (S:=(aN R (k))) (n:=166) (r:=.one .sl0) (fk (m:=5) rfl) hG rfl) (ae (n4 (u:=1) (l:=.own 1 6) (S:=(aN R (k))) (n:=166) (r:=.one .sl0) (fk (m:=6) rfl) hG rfl) (ae (aw (t:=3) (ah (n:=166) rfl) (ah (n:=166) rfl) (cz (by omega))) (ae (cS (m:=167) (t:=3) (ah (n:=4) rfl) (aF (c:=1)) rfl rfl (by omega) (by omega)) (aj))))))))))))))))))))))))))
     (by kernel_rfl) (obs:=[]) (by kernel_rfl) aC (l9 (by kernel_rfl)) (aD (sgi (n:=4) (u:=(((k:Nat):Int)+1)) (v:=((k+1:Nat):Int)) rfl (ah (n:=167) rfl) (by omega)) (aD (sgr (n:=5) (m:=5) (k:=0) rfl rfl hst) (aD (sgr (n:=6) (m:=6) (k:=1) rfl rfl hst) aP))) (Nat.zero_le _)
   ·have hst:(eX (aN R (k)) o.x).1=aN R (k+1):=by rw[hs];unfold np;rw[if_neg h1,if_neg h2]
    refine aV (N:=7) (ρx:=frs (bB R v)++(([.rowW R.length (cZ R)]:List Vp)++(([.val (.int .i64 ((R.length:Nat):Int)),.val (.int .i64 (R.length:Int)),.row stT ([]:List St).length (az ([]:List St))]:List Vp)++(([.val (.int .i64 ((k:Nat):Int)),.row stT (aN R (k)).length (az (aN R (k))),.row stT (aN R (k)).length (az (aN R (k)))]:List Vp)++(([.plcW o.qs,.plcW o.x.qs,.val (.int .i64 o.x.tm),.val (.bool o.x.r0.s),.dig o.x.r0.L o.x.r0.p,.dig o.x.r0.N o.x.r0.q,.val (.bool o.x.r1.s),.dig o.x.r1.L o.x.r1.p,.dig o.x.r1.N o.x.r1.q,.val (.bool o.x.r2.s),.dig o.x.r2.L o.x.r2.p,.dig o.x.r2.N o.x.r2.q,.val (.bool o.x.r3.s),.dig o.x.r3.L o.x.r3.p,.dig o.x.r3.N o.x.r3.q,.val (.bool o.x.r4.s),.dig o.x.r4.L o.x.r4.p,.dig o.x.r4.N o.x.r4.q,.val (.bool o.x.r5.s),.dig o.x.r5.L o.x.r5.p,.dig o.x.r5.N o.x.r5.q,.val (.bool o.x.r6.s),.dig o.x.r6.L o.x.r6.p,.dig o.x.r6.N o.x.r6.q,.val (.int .u8 o.k),.val (.int .u8 o.r),.row stT ((eX (aN R (k)) o.x).1).length (az ((eX (aN R (k)) o.x).1)),.val (.int .i64 ((eX (aN R (k)) o.x).2)),.val (.int .i64 ((cY ((eX (aN R (k)) o.x).1)).1)),.val (.int .i64 ((cY ((eX (aN R (k)) o.x).1)).2.1)),.val (.bool (cY ((eX (aN R (k)) o.x).1)).2.2),.val (.int .i64 (((eX (aN R (k)) o.x).1).length:Int)),.val (.int .i64 (((k:Nat):Int)+1))]:List Vp)))))) (pf (by kernel_rfl)) (by kernel_rfl) (Nat.zero_le _) ?_
    exact aR (N:=4) (σ:=[(4,.ref 39),(5,.own 0 33),(6,.own 1 33)]) (lo:=[]) (n:=300) (ai)
     (ae (dW (n:=0) (m:=2) R rfl rfl) (ae (aw (t:=3) (ah (n:=4) rfl) (ah (n:=2) rfl) (aL (by omega))) (ae (mg (n:=0) (m:=7) (k:=k) R o rfl rfl (aU (ah (n:=4) rfl) (by omega)) ho) (ae (iU (n:=7) (m:=8) o rfl rfl) (ae (iS (n:=8) (t:=35) (ls:=.ref 9::bo [10,13,16,19,22,25,28]) (by kernel_rfl) (by kernel_rfl) rfl (j7 (x:=o.x) rfl ⟨⟨rfl,rfl,rfl⟩,⟨rfl,rfl,rfl⟩,⟨rfl,rfl,rfl⟩,⟨rfl,rfl,rfl⟩,⟨rfl,rfl,rfl⟩,⟨rfl,rfl,rfl⟩,⟨rfl,rfl,rfl⟩,trivial⟩)) (ae (sc (n:=7) o rfl) (ae (sd (n:=7) (m:=31) o rfl rfl) (ae (se (n:=31) (m:=32) o rfl rfl) (ae (aw (t:=5) (ah (n:=32) rfl) (aF (c:=1)) (a8 (by omega))) (ae (aw (t:=5) (ah (n:=32) rfl) (aF (c:=2)) (a8 (by omega))) (ae (I_AddR (u:=0) (k:=0) (m:=5) (m':=33) (c:=34) (n:=9) (ns:=[10,13,16,19,22,25,28]) (S:=(aN R (k))) (x:=o.x) (r:=.one .sl0) rfl rfl rfl rfl ⟨⟨rfl,rfl,rfl⟩,⟨rfl,rfl,rfl⟩,⟨rfl,rfl,rfl⟩,⟨rfl,rfl,rfl⟩,⟨rfl,rfl,rfl⟩,⟨rfl,rfl,rfl⟩,⟨rfl,rfl,rfl⟩,trivial⟩ h2x hG) (ae (I_rtAddR (u:=1) (k:=1) (m:=6) (m':=33) (c:=34) (n:=9) (ns:=[10,13,16,19,22,25,28]) (S:=(aN R (k))) (x:=o.x) (r:=.one .sl0) rfl rfl rfl rfl ⟨⟨rfl,rfl,rfl⟩,⟨rfl,rfl,rfl⟩,⟨rfl,rfl,rfl⟩,⟨rfl,rfl,rfl⟩,⟨rfl,rfl,rfl⟩,⟨rfl,rfl,rfl⟩,⟨rfl,rfl,rfl⟩,trivial⟩ h2x hG) (ae (aw (t:=40) (ah (n:=34) rfl) (ah (n:=34) rfl) (cz (by omega))) (ae (mh (u:=0) (l:=.own 0 33) (S:=((eX (aN R (k)) o.x).1)) (n:=35) (n0:=36) (n1:=37) (r:=.one .sl0) (fk (m:=33) rfl) (hH hG h2x) rfl rfl rfl) (ae (jW (u:=1) (l:=.own 1 33) (S:=((eX (aN R (k)) o.x).1)) (n:=35) (n0:=36) (n1:=37) (r:=.one .sl0) (fk (m:=33) rfl) (hH hG h2x) rfl rfl rfl) (ae (aw (t:=3) (ah (n:=35) rfl) (ah (n:=35) rfl) (cz (by omega))) (ae (aw (t:=3) (ah (n:=36) rfl) (ah (n:=36) rfl) (cz (by omega))) (ae (jX (n0:=37) (n1:=37) rfl rfl) (ae (sb (u:=0) (l:=.own 0 33) (S:=((eX (aN R (k)) o.x).1)) (n:=38) (r:=.one .sl0) (fk (m:=33) rfl) (hH hG h2x) rfl) (ae (n4 (u:=1) (l:=.own 1 33) (S:=((eX (aN R (k)) o.x).1)) (n:=38) (r:=.one .sl0) (fk (m:=33) rfl) (hH hG h2x) rfl) (ae (aw (t:=3) (ah (n:=38) rfl) (ah (n:=38) rfl) (cz (by omega))) (ae (cS (m:=39) (t:=3) (ah (n:=4) rfl) (aF (c:=1)) rfl rfl (by omega) (by omega)) (aj)))))))))))))))))))))))
     (by kernel_rfl) (obs:=[]) (by kernel_rfl) aC (l9 (by kernel_rfl)) (aD (sgi (n:=4) (u:=(((k:Nat):Int)+1)) (v:=((k+1:Nat):Int)) rfl (ah (n:=39) rfl) (by omega)) (aD (sgr (n:=5) (m:=33) (k:=0) rfl rfl hst) (aD (sgr (n:=6) (m:=33) (k:=1) rfl rfl hst) aP))) (Nat.zero_le _)
  ·refine aV (N:=7) (ρx:=frs (bB R v)++(([.rowW R.length (cZ R)]:List Vp)++(([.val (.int .i64 ((R.length:Nat):Int)),.val (.int .i64 (R.length:Int)),.row stT ([]:List St).length (az ([]:List St))]:List Vp)++(([.val (.int .i64 ((R.length:Nat):Int)),.row stT (aN R (R.length)).length (az (aN R (R.length))),.row stT (aN R (R.length)).length (az (aN R (R.length)))]:List Vp)++(([]:List Vp)))))) (pf (by kernel_rfl)) (by kernel_rfl) (Nat.zero_le _) ?_
   exact aR (N:=4) (σ:=[(4,.own 0 5),(5,.own 1 6)]) (lo:=[]) (n:=300) (ai)
    (ae (dW (n:=0) (m:=2) R rfl rfl) (ae (aw (t:=3) (ah (n:=4) rfl) (ah (n:=2) rfl) (aK (by omega))) (aj)))
    (by kernel_rfl) (obs:=[]) (by kernel_rfl) aC (l9 (by kernel_rfl)) (aD (sgr (n:=4) (m:=5) (k:=0) rfl rfl (by rfl)) (aD (sgr (n:=5) (m:=6) (k:=1) rfl rfl (by rfl)) aP)) (Nat.zero_le _)
 refine(bu (ρ:=frs (bB R v)++(([.rowW R.length (cZ R)]:List Vp)++(([.val (.int .i64 ((R.length:Nat):Int)),.val (.int .i64 (R.length:Int)),.row stT ([]:List St).length (az ([]:List St))]:List Vp)++(([.row stT (aN R R.length).length (az (aN R R.length)),.row stT (aN R R.length).length (az (aN R R.length)),.ownr stT 22 (aN R R.length).length (az (aN R R.length))]:List Vp))))) (w:=w) (fuel:=300) (args:=[.one (.ref 0)]) (vs:=[v]) (r:=.v (.one (.b true))) (lo:=[some (ft,.ext 0,d6),some (fu,.ext 2,fv)]) (obs:=[⟨bk Tryz.f7 0,ft,.ext 0,d6⟩,⟨bk Tryz.f7 1,fu,.ext 2,fv⟩])
  (af (I_Same (j:=2) (n:=6) (j':=3) (n':=6) (S:=(aN R R.length)) rfl rfl (gl ht R.length (Nat.le_refl _))) (af (mf) ai))
  (ae (dW (n:=0) (m:=2) R rfl rfl) (ae (aw (t:=3) (ah (n:=2) rfl) (aF (c:=80)) (aQ (by omega))) (ae (I_tNew (u:=0) (k:=0) (m:=3) (r:=.one .sl0) rfl) (ae (I_rtNew (u:=1) (k:=1) (m:=3) (r:=.one .sl0) rfl) (ae (bK (y:=0) (o:=0) (t:=39) ⟨_,Tryz.underlying39⟩) (ae (I_tList (u:=0) (k:=0) (j:=2) (m:=4) (m':=6) (S:=(aN R R.length)) (r:=.one .sl0) rfl rfl (gl ht R.length (Nat.le_refl _))) (ae (I_rtList (u:=1) (k:=1) (j:=3) (m:=5) (m':=6) (S:=(aN R R.length)) (r:=.one .sl0) rfl rfl (gl ht R.length (Nat.le_refl _))) (aj)))))))) (by kernel_rfl) Tryz.func7 (by kernel_rfl) (bI hL0 (bI hL1 aC)) ⟨jU (m:=0) rfl hR,trivial⟩).mono ?_
 rintro e w' ⟨v,rfl,h1,h2⟩
 exact⟨congrArg Ending.returned h1,h2⟩
def fw:MS:=cM 186 [(0,.v (.one (.ref 0))),(2,.v (.one (.b false))),(3,.v (.one (.i .i64 0)))] []
def dA (R:List ROp) (v:Value) (j:Nat):List Fq:=[]
theorem pM {w:World} (R:List ROp) (v:Value) (hR:(Vp.rowW R.length (cZ R)).p w v) (j:Nat) (o:ROp) (hx:R[j]? =some o) (hj:j≤80) (ht:∀(i:Nat) (y:ROp),i<j→R[i]? =some y→y.x.tw=true) (hb:o.x.tw=false):
  Calls Tryz.prog 7 #[v] w fun e w'=>bH w (.bool true) e w':=by
 have hjl:=(List.getElem?_eq_some_iff.1 hx).1
 have hL0:LOb.Ok Tryz.prog (frs (dA R v j)++(([.rowW R.length (cZ R)]:List Vp)++(([]:List Vp)))) (Ent.of w) 186 ⟨bk Tryz.f7 0,fw,.ret,cM 186 [(2,.v (.one (.b true)))] []⟩:=by
  refine bx j (fun k=>frs (dA R v j)++(([.rowW R.length (cZ R)]:List Vp)++(([.val (.int .i64 ((k:Nat):Int))]:List Vp)))) (fun _=>cM 186 [(0,.v (.one (.ref 0))),(2,.v (.one (.b false))),(3,.v (.one (.ref 1)))] []) ?_ ?_ ?_ (by decide) (Nat.zero_le _)
  ·intro a_ w_ h_
   exact MSt.conv (N:=1) (σ:=[(1,.i .i64 0)]) (cmP (by kernel_rfl)) (aD (sgi (n:=1) (u:=0) (v:=((0:Nat):Int)) rfl (aF (c:=0)) (by omega)) aP) (by kernel_rfl) h_ (Nat.zero_le _)
  ·intro k hk
   obtain⟨y_,hy⟩:∃x,R[k]? =some x:=⟨_,List.getElem?_eq_getElem (by omega)⟩
   refine aV (N:=2) (ρx:=frs (dA R v j)++(([.rowW R.length (cZ R)]:List Vp)++(([.val (.int .i64 ((k:Nat):Int))]:List Vp)++(([.val (.int .i64 (R.length:Int)),.plcW y_.qs,.plcW y_.x.qs,.plcW (mN y_.x.rs),.val (.int .i64 y_.x.tm),.val (.bool y_.x.r0.s),.dig y_.x.r0.L y_.x.r0.p,.dig y_.x.r0.N y_.x.r0.q,.val (.bool y_.x.r1.s),.dig y_.x.r1.L y_.x.r1.p,.dig y_.x.r1.N y_.x.r1.q,.val (.bool y_.x.r2.s),.dig y_.x.r2.L y_.x.r2.p,.dig y_.x.r2.N y_.x.r2.q,.val (.bool y_.x.r3.s),.dig y_.x.r3.L y_.x.r3.p,.dig y_.x.r3.N y_.x.r3.q,.val (.bool y_.x.r4.s),.dig y_.x.r4.L y_.x.r4.p,.dig y_.x.r4.N y_.x.r4.q,.val (.bool y_.x.r5.s),.dig y_.x.r5.L y_.x.r5.p,.dig y_.x.r5.N y_.x.r5.q,.val (.bool y_.x.r6.s),.dig y_.x.r6.L y_.x.r6.p,.dig y_.x.r6.N y_.x.r6.q,.val (.int .i64 (((k:Nat):Int)+1))]:List Vp))))) (cmX (by kernel_rfl)) (by kernel_rfl) (Nat.zero_le _) ?_
   exact aR (N:=1) (σ:=[(1,.ref 28)]) (lo:=[]) (n:=300) (af (uh (ns:=[7,10,13,16,19,22,25]) (x:=y_.x) (b:=true) ⟨⟨rfl,rfl,rfl⟩,⟨rfl,rfl,rfl⟩,⟨rfl,rfl,rfl⟩,⟨rfl,rfl,rfl⟩,⟨rfl,rfl,rfl⟩,⟨rfl,rfl,rfl⟩,⟨rfl,rfl,rfl⟩,trivial⟩ (ht k y_ hk hy)) ai)
    (ae (dW (n:=0) (m:=2) R rfl rfl) (ae (aw (t:=3) (ah (n:=1) rfl) (ah (n:=2) rfl) (aL (by omega))) (ae (aw (t:=3) (ah (n:=1) rfl) (aF (c:=80)) (cW (by omega))) (ae (mg (n:=0) (m:=3) (k:=k) R y_ rfl rfl (aU (ah (n:=1) rfl) (by omega)) hy) (ae (iU (n:=3) (m:=4) y_ rfl rfl) (ae (po (n:=4) (m:=5) (t:=35) (f:=1) (off:=1) (sz:=20) (by kernel_rfl) rfl rfl (hr1 (x:=y_.x))) (ae (iS (n:=5) (t:=33) (ls:=bo [7,10,13,16,19,22,25]) (by kernel_rfl) (by kernel_rfl) rfl (gI (rs:=y_.x.rs) ⟨⟨rfl,rfl,rfl⟩,⟨rfl,rfl,rfl⟩,⟨rfl,rfl,rfl⟩,⟨rfl,rfl,rfl⟩,⟨rfl,rfl,rfl⟩,⟨rfl,rfl,rfl⟩,⟨rfl,rfl,rfl⟩,trivial⟩)) (ae (cS (m:=28) (t:=3) (ah (n:=1) rfl) (aF (c:=1)) rfl rfl (by omega) (by omega)) (aj)))))))))
    (by kernel_rfl) (obs:=[]) (by kernel_rfl) aC (cmP (by kernel_rfl)) (aD (sgi (n:=1) (u:=(((k:Nat):Int)+1)) (v:=((k+1:Nat):Int)) rfl (ah (n:=28) rfl) (by omega)) aP) (Nat.zero_le _)
  ·refine aV (N:=2) (ρx:=frs (dA R v j)++(([.rowW R.length (cZ R)]:List Vp)++(([.val (.int .i64 ((j:Nat):Int))]:List Vp)++(([.val (.int .i64 (R.length:Int)),.plcW o.qs,.plcW o.x.qs,.plcW (mN o.x.rs),.val (.int .i64 o.x.tm),.val (.bool o.x.r0.s),.dig o.x.r0.L o.x.r0.p,.dig o.x.r0.N o.x.r0.q,.val (.bool o.x.r1.s),.dig o.x.r1.L o.x.r1.p,.dig o.x.r1.N o.x.r1.q,.val (.bool o.x.r2.s),.dig o.x.r2.L o.x.r2.p,.dig o.x.r2.N o.x.r2.q,.val (.bool o.x.r3.s),.dig o.x.r3.L o.x.r3.p,.dig o.x.r3.N o.x.r3.q,.val (.bool o.x.r4.s),.dig o.x.r4.L o.x.r4.p,.dig o.x.r4.N o.x.r4.q,.val (.bool o.x.r5.s),.dig o.x.r5.L o.x.r5.p,.dig o.x.r5.N o.x.r5.q,.val (.bool o.x.r6.s),.dig o.x.r6.L o.x.r6.p,.dig o.x.r6.N o.x.r6.q]:List Vp))))) (cmX (by kernel_rfl)) (by kernel_rfl) (Nat.zero_le _) ?_
   exact aR (N:=1) (σ:=[]) (lo:=[]) (n:=300) (af (uh (ns:=[7,10,13,16,19,22,25]) (x:=o.x) (b:=false) ⟨⟨rfl,rfl,rfl⟩,⟨rfl,rfl,rfl⟩,⟨rfl,rfl,rfl⟩,⟨rfl,rfl,rfl⟩,⟨rfl,rfl,rfl⟩,⟨rfl,rfl,rfl⟩,⟨rfl,rfl,rfl⟩,trivial⟩ hb) (af (mf) ai))
    (ae (dW (n:=0) (m:=2) R rfl rfl) (ae (aw (t:=3) (ah (n:=1) rfl) (ah (n:=2) rfl) (aL (by omega))) (ae (aw (t:=3) (ah (n:=1) rfl) (aF (c:=80)) (cW (by omega))) (ae (mg (n:=0) (m:=3) (k:=j) R o rfl rfl (aU (ah (n:=1) rfl) (by omega)) hx) (ae (iU (n:=3) (m:=4) o rfl rfl) (ae (po (n:=4) (m:=5) (t:=35) (f:=1) (off:=1) (sz:=20) (by kernel_rfl) rfl rfl (hr1 (x:=o.x))) (ae (iS (n:=5) (t:=33) (ls:=bo [7,10,13,16,19,22,25]) (by kernel_rfl) (by kernel_rfl) rfl (gI (rs:=o.x.rs) ⟨⟨rfl,rfl,rfl⟩,⟨rfl,rfl,rfl⟩,⟨rfl,rfl,rfl⟩,⟨rfl,rfl,rfl⟩,⟨rfl,rfl,rfl⟩,⟨rfl,rfl,rfl⟩,⟨rfl,rfl,rfl⟩,trivial⟩)) (aj))))))))
    (by kernel_rfl) (obs:=[]) (by kernel_rfl) aC (cmP (by kernel_rfl)) aP (Nat.zero_le _)
 refine(bu (ρ:=frs (dA R v j)++(([.rowW R.length (cZ R)]:List Vp)++(([]:List Vp)))) (w:=w) (fuel:=300) (args:=[.one (.ref 0)]) (vs:=[v]) (r:=.v (.one (.b true))) (lo:=[some (fw,.ret,cM 186 [(2,.v (.one (.b true)))] [])]) (obs:=[⟨bk Tryz.f7 0,fw,.ret,cM 186 [(2,.v (.one (.b true)))] []⟩])
  (ai)
  aj (by kernel_rfl) Tryz.func7 (by kernel_rfl) (bI hL0 aC) ⟨jU (m:=0) rfl hR,trivial⟩).mono ?_
 rintro e w' ⟨v,rfl,h1,h2⟩
 exact⟨congrArg Ending.returned h1,h2⟩
def fx:MS:=cM 186 [(0,.v (.one (.ref 0))),(2,.v (.one (.b false))),(3,.v (.one (.i .i64 0)))] []
def d7:MS:=cM 186 [(0,.v (.one (.ref 0))),(2,.v (.one (.b false))),(3,.v (.one (.ref 1)))] []
def dB (R:List ROp) (v:Value):List Fq:=[]
theorem pN {w:World} (R:List ROp) (v:Value) (hR:(Vp.rowW R.length (cZ R)).p w v) (ht:∀(i:Nat) (y:ROp),i<81→R[i]? =some y→y.x.tw=true) (hl:81<R.length):
  Calls Tryz.prog 7 #[v] w fun e w'=>bH w (.bool true) e w':=by
 have hL0:LOb.Ok Tryz.prog (frs (dB R v)++(([.rowW R.length (cZ R)]:List Vp)++(([.val (.int .i64 ((81:Nat):Int)),.val (.int .i64 (R.length:Int))]:List Vp)))) (Ent.of w) 186 ⟨bk Tryz.f7 0,fx,.ext 0,d7⟩:=by
  refine bx 81 (fun k=>frs (dB R v)++(([.rowW R.length (cZ R)]:List Vp)++(([.val (.int .i64 ((k:Nat):Int))]:List Vp)))) (fun _=>d7) ?_ ?_ ?_ (by decide) (Nat.zero_le _)
  ·intro a_ w_ h_
   exact MSt.conv (N:=1) (σ:=[(1,.i .i64 0)]) (cmP (by kernel_rfl)) (aD (sgi (n:=1) (u:=0) (v:=((0:Nat):Int)) rfl (aF (c:=0)) (by omega)) aP) (by kernel_rfl) h_ (Nat.zero_le _)
  ·intro k hk
   obtain⟨y_,hy⟩:∃x,R[k]? =some x:=⟨_,List.getElem?_eq_getElem (by omega)⟩
   refine aV (N:=2) (ρx:=frs (dB R v)++(([.rowW R.length (cZ R)]:List Vp)++(([.val (.int .i64 ((k:Nat):Int))]:List Vp)++(([.val (.int .i64 (R.length:Int)),.plcW y_.qs,.plcW y_.x.qs,.plcW (mN y_.x.rs),.val (.int .i64 y_.x.tm),.val (.bool y_.x.r0.s),.dig y_.x.r0.L y_.x.r0.p,.dig y_.x.r0.N y_.x.r0.q,.val (.bool y_.x.r1.s),.dig y_.x.r1.L y_.x.r1.p,.dig y_.x.r1.N y_.x.r1.q,.val (.bool y_.x.r2.s),.dig y_.x.r2.L y_.x.r2.p,.dig y_.x.r2.N y_.x.r2.q,.val (.bool y_.x.r3.s),.dig y_.x.r3.L y_.x.r3.p,.dig y_.x.r3.N y_.x.r3.q,.val (.bool y_.x.r4.s),.dig y_.x.r4.L y_.x.r4.p,.dig y_.x.r4.N y_.x.r4.q,.val (.bool y_.x.r5.s),.dig y_.x.r5.L y_.x.r5.p,.dig y_.x.r5.N y_.x.r5.q,.val (.bool y_.x.r6.s),.dig y_.x.r6.L y_.x.r6.p,.dig y_.x.r6.N y_.x.r6.q,.val (.int .i64 (((k:Nat):Int)+1))]:List Vp))))) (cmX (by kernel_rfl)) (by kernel_rfl) (Nat.zero_le _) ?_
   exact aR (N:=1) (σ:=[(1,.ref 28)]) (lo:=[]) (n:=300) (af (uh (ns:=[7,10,13,16,19,22,25]) (x:=y_.x) (b:=true) ⟨⟨rfl,rfl,rfl⟩,⟨rfl,rfl,rfl⟩,⟨rfl,rfl,rfl⟩,⟨rfl,rfl,rfl⟩,⟨rfl,rfl,rfl⟩,⟨rfl,rfl,rfl⟩,⟨rfl,rfl,rfl⟩,trivial⟩ (ht k y_ hk hy)) ai)
    (ae (dW (n:=0) (m:=2) R rfl rfl) (ae (aw (t:=3) (ah (n:=1) rfl) (ah (n:=2) rfl) (aL (by omega))) (ae (aw (t:=3) (ah (n:=1) rfl) (aF (c:=80)) (cW (by omega))) (ae (mg (n:=0) (m:=3) (k:=k) R y_ rfl rfl (aU (ah (n:=1) rfl) (by omega)) hy) (ae (iU (n:=3) (m:=4) y_ rfl rfl) (ae (po (n:=4) (m:=5) (t:=35) (f:=1) (off:=1) (sz:=20) (by kernel_rfl) rfl rfl (hr1 (x:=y_.x))) (ae (iS (n:=5) (t:=33) (ls:=bo [7,10,13,16,19,22,25]) (by kernel_rfl) (by kernel_rfl) rfl (gI (rs:=y_.x.rs) ⟨⟨rfl,rfl,rfl⟩,⟨rfl,rfl,rfl⟩,⟨rfl,rfl,rfl⟩,⟨rfl,rfl,rfl⟩,⟨rfl,rfl,rfl⟩,⟨rfl,rfl,rfl⟩,⟨rfl,rfl,rfl⟩,trivial⟩)) (ae (cS (m:=28) (t:=3) (ah (n:=1) rfl) (aF (c:=1)) rfl rfl (by omega) (by omega)) (aj)))))))))
    (by kernel_rfl) (obs:=[]) (by kernel_rfl) aC (cmP (by kernel_rfl)) (aD (sgi (n:=1) (u:=(((k:Nat):Int)+1)) (v:=((k+1:Nat):Int)) rfl (ah (n:=28) rfl) (by omega)) aP) (Nat.zero_le _)
  ·refine aV (N:=2) (ρx:=frs (dB R v)++(([.rowW R.length (cZ R)]:List Vp)++(([.val (.int .i64 ((81:Nat):Int))]:List Vp)++(([.val (.int .i64 (R.length:Int))]:List Vp))))) (cmX (by kernel_rfl)) (by kernel_rfl) (Nat.zero_le _) ?_
   exact aR (N:=1) (σ:=[(1,.ref 1)]) (lo:=[]) (n:=300) (ai)
    (ae (dW (n:=0) (m:=2) R rfl rfl) (ae (aw (t:=3) (ah (n:=1) rfl) (ah (n:=2) rfl) (aL (by omega))) (ae (aw (t:=3) (ah (n:=1) rfl) (aF (c:=80)) (eE (by omega))) (aj))))
    (by kernel_rfl) (obs:=[]) (by kernel_rfl) aC (cmP (by kernel_rfl)) (aD (sgi (n:=1) (u:=((81:Nat):Int)) (v:=((81:Nat):Int)) rfl (ah (n:=1) rfl) (by omega)) aP) (Nat.zero_le _)
 refine(bu (ρ:=frs (dB R v)++(([.rowW R.length (cZ R)]:List Vp)++(([.val (.int .i64 ((81:Nat):Int)),.val (.int .i64 (R.length:Int))]:List Vp)))) (w:=w) (fuel:=300) (args:=[.one (.ref 0)]) (vs:=[v]) (r:=.v (.one (.b true))) (lo:=[some (fx,.ext 0,d7)]) (obs:=[⟨bk Tryz.f7 0,fx,.ext 0,d7⟩])
  (af (mf) ai)
  (ae (dW (n:=0) (m:=2) R rfl rfl) (ae (aw (t:=3) (ah (n:=2) rfl) (aF (c:=80)) (bm (by omega))) (aj))) (by kernel_rfl) Tryz.func7 (by kernel_rfl) (bI hL0 aC) ⟨jU (m:=0) rfl hR,trivial⟩).mono ?_
 rintro e w' ⟨v,rfl,h1,h2⟩
 exact⟨congrArg Ending.returned h1,h2⟩
def fy:MS:=cM 186 [(0,.v (.one (.ref 0))),(2,.v (.one (.b false))),(3,.v (.one (.i .i64 0)))] []
def d8:MS:=cM 186 [(0,.v (.one (.ref 0))),(2,.v (.one (.b false))),(3,.v (.one (.ref 1)))] []
def dC (R:List ROp) (v:Value):List Fq:=[]
theorem pO {w:World} (R:List ROp) (v:Value) (hR:(Vp.rowW R.length (cZ R)).p w v) (ht:∀(i:Nat) (y:ROp),i<81→R[i]? =some y→y.x.tw=true) (hl:R.length=81):
  Calls Tryz.prog 7 #[v] w fun e w'=>bH w (.bool true) e w':=by
 have hL0:LOb.Ok Tryz.prog (frs (dC R v)++(([.rowW R.length (cZ R)]:List Vp)++(([.val (.int .i64 ((R.length:Nat):Int)),.val (.int .i64 (R.length:Int))]:List Vp)))) (Ent.of w) 186 ⟨bk Tryz.f7 0,fy,.ext 0,d8⟩:=by
  refine bx R.length (fun k=>frs (dC R v)++(([.rowW R.length (cZ R)]:List Vp)++(([.val (.int .i64 ((k:Nat):Int))]:List Vp)))) (fun _=>d8) ?_ ?_ ?_ (by decide) (Nat.zero_le _)
  ·intro a_ w_ h_
   exact MSt.conv (N:=1) (σ:=[(1,.i .i64 0)]) (cmP (by kernel_rfl)) (aD (sgi (n:=1) (u:=0) (v:=((0:Nat):Int)) rfl (aF (c:=0)) (by omega)) aP) (by kernel_rfl) h_ (Nat.zero_le _)
  ·intro k hk
   obtain⟨y_,hy⟩:∃x,R[k]? =some x:=⟨_,List.getElem?_eq_getElem (by omega)⟩
   refine aV (N:=2) (ρx:=frs (dC R v)++(([.rowW R.length (cZ R)]:List Vp)++(([.val (.int .i64 ((k:Nat):Int))]:List Vp)++(([.val (.int .i64 (R.length:Int)),.plcW y_.qs,.plcW y_.x.qs,.plcW (mN y_.x.rs),.val (.int .i64 y_.x.tm),.val (.bool y_.x.r0.s),.dig y_.x.r0.L y_.x.r0.p,.dig y_.x.r0.N y_.x.r0.q,.val (.bool y_.x.r1.s),.dig y_.x.r1.L y_.x.r1.p,.dig y_.x.r1.N y_.x.r1.q,.val (.bool y_.x.r2.s),.dig y_.x.r2.L y_.x.r2.p,.dig y_.x.r2.N y_.x.r2.q,.val (.bool y_.x.r3.s),.dig y_.x.r3.L y_.x.r3.p,.dig y_.x.r3.N y_.x.r3.q,.val (.bool y_.x.r4.s),.dig y_.x.r4.L y_.x.r4.p,.dig y_.x.r4.N y_.x.r4.q,.val (.bool y_.x.r5.s),.dig y_.x.r5.L y_.x.r5.p,.dig y_.x.r5.N y_.x.r5.q,.val (.bool y_.x.r6.s),.dig y_.x.r6.L y_.x.r6.p,.dig y_.x.r6.N y_.x.r6.q,.val (.int .i64 (((k:Nat):Int)+1))]:List Vp))))) (cmX (by kernel_rfl)) (by kernel_rfl) (Nat.zero_le _) ?_
   exact aR (N:=1) (σ:=[(1,.ref 28)]) (lo:=[]) (n:=300) (af (uh (ns:=[7,10,13,16,19,22,25]) (x:=y_.x) (b:=true) ⟨⟨rfl,rfl,rfl⟩,⟨rfl,rfl,rfl⟩,⟨rfl,rfl,rfl⟩,⟨rfl,rfl,rfl⟩,⟨rfl,rfl,rfl⟩,⟨rfl,rfl,rfl⟩,⟨rfl,rfl,rfl⟩,trivial⟩ (ht k y_ (by omega) hy)) ai)
    (ae (dW (n:=0) (m:=2) R rfl rfl) (ae (aw (t:=3) (ah (n:=1) rfl) (ah (n:=2) rfl) (aL (by omega))) (ae (aw (t:=3) (ah (n:=1) rfl) (aF (c:=80)) (cW (by omega))) (ae (mg (n:=0) (m:=3) (k:=k) R y_ rfl rfl (aU (ah (n:=1) rfl) (by omega)) hy) (ae (iU (n:=3) (m:=4) y_ rfl rfl) (ae (po (n:=4) (m:=5) (t:=35) (f:=1) (off:=1) (sz:=20) (by kernel_rfl) rfl rfl (hr1 (x:=y_.x))) (ae (iS (n:=5) (t:=33) (ls:=bo [7,10,13,16,19,22,25]) (by kernel_rfl) (by kernel_rfl) rfl (gI (rs:=y_.x.rs) ⟨⟨rfl,rfl,rfl⟩,⟨rfl,rfl,rfl⟩,⟨rfl,rfl,rfl⟩,⟨rfl,rfl,rfl⟩,⟨rfl,rfl,rfl⟩,⟨rfl,rfl,rfl⟩,⟨rfl,rfl,rfl⟩,trivial⟩)) (ae (cS (m:=28) (t:=3) (ah (n:=1) rfl) (aF (c:=1)) rfl rfl (by omega) (by omega)) (aj)))))))))
    (by kernel_rfl) (obs:=[]) (by kernel_rfl) aC (cmP (by kernel_rfl)) (aD (sgi (n:=1) (u:=(((k:Nat):Int)+1)) (v:=((k+1:Nat):Int)) rfl (ah (n:=28) rfl) (by omega)) aP) (Nat.zero_le _)
  ·refine aV (N:=2) (ρx:=frs (dC R v)++(([.rowW R.length (cZ R)]:List Vp)++(([.val (.int .i64 ((R.length:Nat):Int))]:List Vp)++(([.val (.int .i64 (R.length:Int))]:List Vp))))) (cmX (by kernel_rfl)) (by kernel_rfl) (Nat.zero_le _) ?_
   exact aR (N:=1) (σ:=[(1,.ref 1)]) (lo:=[]) (n:=300) (ai)
    (ae (dW (n:=0) (m:=2) R rfl rfl) (ae (aw (t:=3) (ah (n:=1) rfl) (ah (n:=2) rfl) (aK (by omega))) (aj)))
    (by kernel_rfl) (obs:=[]) (by kernel_rfl) aC (cmP (by kernel_rfl)) (aD (sgi (n:=1) (u:=((R.length:Nat):Int)) (v:=((R.length:Nat):Int)) rfl (ah (n:=1) rfl) (by omega)) aP) (Nat.zero_le _)
 refine(bu (ρ:=frs (dC R v)++(([.rowW R.length (cZ R)]:List Vp)++(([.val (.int .i64 ((R.length:Nat):Int)),.val (.int .i64 (R.length:Int))]:List Vp)))) (w:=w) (fuel:=300) (args:=[.one (.ref 0)]) (vs:=[v]) (r:=.v (.one (.b true))) (lo:=[some (fy,.ext 0,d8)]) (obs:=[⟨bk Tryz.f7 0,fy,.ext 0,d8⟩])
  (af (mf) ai)
  (ae (dW (n:=0) (m:=2) R rfl rfl) (ae (aw (t:=3) (ah (n:=2) rfl) (aF (c:=80)) (bm (by omega))) (aj))) (by kernel_rfl) Tryz.func7 (by kernel_rfl) (bI hL0 aC) ⟨jU (m:=0) rfl hR,trivial⟩).mono ?_
 rintro e w' ⟨v,rfl,h1,h2⟩
 exact⟨congrArg Ending.returned h1,h2⟩
theorem sf (v:Value) (R:List ROp) (w:World) (hR:(Vp.rowW R.length (cZ R)).p w v):Calls Tryz.prog 7 #[v] w fun e w'=>bH w (.bool true) e w':=by
 rcases qF (fun o:ROp=>o.x.tw) R 81 with h | ⟨j,x,hj,hx,ht,hb⟩
 ·by_cases hl:R.length≤80
  ·exact pL R v hR (fun o ho=>by
    obtain⟨i,hi,rfl⟩:=List.getElem_of_mem ho
    exact h i _ (by omega) (List.getElem?_eq_getElem hi)) hl
  ·by_cases he:R.length=81
   ·exact pO R v hR h he
   ·exact pN R v hR h (by omega)
 ·exact pM R v hR j x hx (by omega) ht hb
end Go.Proofs.YtfhinmdhjlmikaaGreat
namespace Go.Proofs.YtfhinmdhjlmikaaGreat
set_option linter.unusedSimpArgs false
set_option linter.unusedVariables false
set_option maxRecDepth 100000
open Go.RowKit
open Go.ChangeShapes Go.WideShapes Go.ChangeAt Go.RowKit
theorem mi (f:Nat→Nat) (hf:∀j,f j<4294967296):∀L,∃N,N<4294967296^L∧∀j,j<L→D N j=f j
 | 0=>⟨0,by simp,fun j h=>by omega⟩
 | L+1=>by
  obtain⟨N,h1,h2⟩:=mi f hf L
  refine⟨upd N L (f L),i4 (Nat.lt_of_lt_of_le h1 (Nat.pow_le_pow_right (by decide) (Nat.le_succ L))) (Nat.lt_succ_self L) (hf L),fun j hj=> ?_⟩
  by_cases e:j=L
  ·subst e;exact kd N j (f j) (hf j)
  ·rw[gr N L (f L) j (hf L) e];exact h2 j (by omega)
end Go.Proofs.YtfhinmdhjlmikaaGreat
namespace Go.Proofs.YtfhinmdhjlmikaaGreat
set_option linter.unusedSimpArgs false
set_option linter.unusedVariables false
set_option maxRecDepth 100000
open Go.RowKit
open Go.ChangeShapes Go.WideShapes Go.ChangeAt Go.RowKit
section
variable {H:Type} {enc:TypeId×Value→H} {W:World}
theorem bulk_one (d:DataW H):1≤Rows.uptoBulk d:=by
 cases d with
 | lit l=>cases l<;>simp[Rows.uptoBulk]
 | nil=>simp[Rows.uptoBulk]
 | ptr d=>simp[Rows.uptoBulk]
 | slice elems spare=>simp[Rows.uptoBulk]
 | agg parts=>simp[Rows.uptoBulk]
 | iface t d=>simp[Rows.uptoBulk]
 | map aT=>simp[Rows.uptoBulk]
 | held h=>simp[Rows.uptoBulk]
theorem ul:∀l:List (DataW H),l.length≤Rows.uptoBulkAll l
 | []=>Nat.zero_le _
 | d::l=>by have:=bulk_one d;have:=ul l;simp only[Rows.uptoBulkAll,List.length_cons];omega
theorem qG {fuel:Nat} {u:Value} {x:DataW H×List MemPlace} (hf:DataW.trod enc Tryz.prog W 0 (fun _=>true) true fuel 25 [u]=some x):
  ∃a L cap m,u= .slice a L cap∧IsR W (.agg #[.slice a L cap]) L m∧L≤Rows.uptoBulk x.1:=by
 obtain⟨y0,n,hy,hl0,h1⟩:=trod_struct1 Tryz.underlying25 hf
 have hc2:Tryz.prog.cellsOf 23=1:=by kernel_rfl
 simp[hc2]at h1
 rcases open_ints Tryz.underlying23 Tryz.underlying113 (by kernel_rfl) h1 with⟨hcs,_⟩ | ⟨x',l,c,zs,hcs,_,hl,hm,hz,hx0,hcell,hwz⟩
 ·simp at hcs
  subst hcs
  exact⟨none,0,0,0,rfl,⟨none,0,rfl,Nat.le_refl _,by simp,fun h=>by omega⟩,Nat.zero_le _⟩
 ·simp at hcs
  subst hcs
  obtain⟨N,hN,hD⟩:=mi (fun j=>(zs.getD j 0).toNat) (fun j=>by
   have:=range_u32 hwz j
   have e:zs.getD j 0=zs[j]?.getD 0:=by simp
   rw[e];omega) l
  refine⟨some x',l,c,N,rfl,⟨some x',c,rfl,hl,hN,fun h0=> ?_⟩,?_⟩
  ·obtain⟨b,off,spot⟩:=x'
   have hc0:=hcell 0 (by rw[hz];simp;omega)
   have hspot:spot=none:=by simpa [Addr.add]using World.cell?_spot hc0
   subst hspot
   refine⟨b,off,rfl,fun j hj=> ?_⟩
   have h2:=hcell j (by rw[hz];simp;omega)
   have hadd:(⟨b,off,none⟩:Addr).add j=⟨b,off+j,none⟩:=by unfold Addr.add;split<;>simp_all
   rw[hadd]at h2
   rw[h2,hD j hj]
   have:=range_u32 hwz j
   have e:zs.getD j 0=zs[j]?.getD 0:=by simp
   rw[e,Int.toNat_of_nonneg this.1]
  ·have h4:(lits (H:=H) .u32 (zs.take l)).length=l:=by
    simp only[lits,List.length_map,List.length_take]
    have:l≤zs.length:=by rw[hz];simp;omega
    omega
   have h5:=ul (lits (H:=H) .u32 (zs.take l))
   rw[hy]
   simp only[Rows.uptoBulk,Rows.uptoBulkAll,hx0]
   omega
theorem eg {fuel:Nat} {u0 u1 u2:Value} {x:DataW H×List MemPlace} (hf:DataW.trod enc Tryz.prog W 0 (fun _=>true) true fuel 27 [u0,u1,u2]=some x):
  ∃(r:Rq) (a b:Option Addr) (c d:Nat),u0= .bool r.s∧u1= .slice a r.L c∧u2= .slice b r.N d∧IsR W (.agg #[.slice a r.L c]) r.L r.p∧IsR W (.agg #[.slice b r.N d]) r.N r.q∧r.L≤Rows.uptoBulk x.1∧r.N≤Rows.uptoBulk x.1:=by
 have hcn:Tryz.prog.cellsOf 25=1:=by kernel_rfl
 have hcb:Tryz.prog.cellsOf 4=1:=by kernel_rfl
 obtain⟨y0,y1,y2,n,hy,hl0,h0,h1,h2⟩:=Go.Deep.trod_struct3 Tryz.underlying27 hf
 simp[hcn,hcb]at h0 h1 h2
 obtain⟨s,h3,_⟩:=DataW.trod_bool Tryz.underlying4 h0
 obtain rfl:u0= .bool s:=by simpa using h3
 obtain⟨a,L,c,m,rfl,i1,l1⟩:=qG h1
 obtain⟨a',N,c',k,rfl,i2,l2⟩:=qG h2
 have hk:Rows.uptoBulk y1.1≤Rows.uptoBulk x.1∧Rows.uptoBulk y2.1≤Rows.uptoBulk x.1:=by rw[hy];simp only[Rows.uptoBulk,Rows.uptoBulkAll];omega
 exact⟨⟨s,L,m,N,k⟩,a,a',c,c',rfl,rfl,rfl,i1,i2,Nat.le_trans l1 hk.1,Nat.le_trans l2 hk.2⟩
theorem xg {fuel:Nat} {l:List Value} {x:DataW H×List MemPlace} (hl:l.length=12) (hf:DataW.trod enc Tryz.prog W 0 (fun _=>true) true fuel 29 l=some x):
  ∃r0 r1 r2 r3:Rq,bR W [r0,r1,r2,r3] l∧(r0.L≤Rows.uptoBulk x.1∧r0.N≤Rows.uptoBulk x.1)∧(r1.L≤Rows.uptoBulk x.1∧r1.N≤Rows.uptoBulk x.1)∧(r2.L≤Rows.uptoBulk x.1∧r2.N≤Rows.uptoBulk x.1)∧(r3.L≤Rows.uptoBulk x.1∧r3.N≤Rows.uptoBulk x.1):=by
 have hcf:Tryz.prog.cellsOf 27=3:=by kernel_rfl
 match l,hl with
 | [u0,u1,u2,u3,u4,u5,u6,u7,u8,u9,u10,u11],_=>
  obtain⟨xs,n,_,hx,_,hlen,hg⟩:=DataW.trod_struct Tryz.underlying29 hf
  match xs,hlen with
  | [y0,y1,y2,y3],_=>
   have h0:=hg 0 _ rfl
   have h1:=hg 1 _ rfl
   have h2:=hg 2 _ rfl
   have h3:=hg 3 _ rfl
   simp[Value.cells,hcf]at h0 h1 h2 h3
   obtain⟨r0,a0,b0,c0,d0,rfl,rfl,rfl,i0,j0,s0,t0⟩:=eg h0
   obtain⟨r1,a1,b1,c1,d1,rfl,rfl,rfl,i1,j1,s1,t1⟩:=eg h1
   obtain⟨r2,a2,b2,c2,d2,rfl,rfl,rfl,i2,j2,s2,t2⟩:=eg h2
   obtain⟨r3,a3,b3,c3,d3,rfl,rfl,rfl,i3,j3,s3,t3⟩:=eg h3
   have hb:x.1=_:=congrArg Prod.fst hx
   simp only[List.map_cons,List.map_nil]at hb
   have hk:Rows.uptoBulk y0.1≤Rows.uptoBulk x.1∧Rows.uptoBulk y1.1≤Rows.uptoBulk x.1∧Rows.uptoBulk y2.1≤Rows.uptoBulk x.1∧Rows.uptoBulk y3.1≤Rows.uptoBulk x.1:=by rw[hb];simp only[Rows.uptoBulk,Rows.uptoBulkAll];omega
   exact⟨r0,r1,r2,r3,⟨a0,c0,b0,d0,_,rfl,i0,j0,a1,c1,b1,d1,_,rfl,i1,j1,a2,c2,b2,d2,_,rfl,i2,j2,a3,c3,b3,d3,_,rfl,i3,j3,rfl⟩,⟨by omega,by omega⟩,⟨by omega,by omega⟩,⟨by omega,by omega⟩,⟨by omega,by omega⟩⟩
theorem z7 {fuel:Nat} {l:List Value} {x:DataW H×List MemPlace} (hl:l.length=9) (hf:DataW.trod enc Tryz.prog W 0 (fun _=>true) true fuel 31 l=some x):
  ∃r0 r1 r2:Rq,bR W [r0,r1,r2] l∧(r0.L≤Rows.uptoBulk x.1∧r0.N≤Rows.uptoBulk x.1)∧(r1.L≤Rows.uptoBulk x.1∧r1.N≤Rows.uptoBulk x.1)∧(r2.L≤Rows.uptoBulk x.1∧r2.N≤Rows.uptoBulk x.1):=by
 have hcf:Tryz.prog.cellsOf 27=3:=by kernel_rfl
 match l,hl with
 | [u0,u1,u2,u3,u4,u5,u6,u7,u8],_=>
  obtain⟨xs,n,_,hx,_,hlen,hg⟩:=DataW.trod_struct Tryz.underlying31 hf
  match xs,hlen with
  | [y0,y1,y2],_=>
   have h0:=hg 0 _ rfl
   have h1:=hg 1 _ rfl
   have h2:=hg 2 _ rfl
   simp[Value.cells,hcf]at h0 h1 h2
   obtain⟨r0,a0,b0,c0,d0,rfl,rfl,rfl,i0,j0,s0,t0⟩:=eg h0
   obtain⟨r1,a1,b1,c1,d1,rfl,rfl,rfl,i1,j1,s1,t1⟩:=eg h1
   obtain⟨r2,a2,b2,c2,d2,rfl,rfl,rfl,i2,j2,s2,t2⟩:=eg h2
   have hb:x.1=_:=congrArg Prod.fst hx
   simp only[List.map_cons,List.map_nil]at hb
   have hk:Rows.uptoBulk y0.1≤Rows.uptoBulk x.1∧Rows.uptoBulk y1.1≤Rows.uptoBulk x.1∧Rows.uptoBulk y2.1≤Rows.uptoBulk x.1:=by rw[hb];simp only[Rows.uptoBulk,Rows.uptoBulkAll];omega
   exact⟨r0,r1,r2,⟨a0,c0,b0,d0,_,rfl,i0,j0,a1,c1,b1,d1,_,rfl,i1,j1,a2,c2,b2,d2,_,rfl,i2,j2,rfl⟩,⟨by omega,by omega⟩,⟨by omega,by omega⟩,⟨by omega,by omega⟩⟩
theorem pB:∀ {l l':List Rq} {cs cs':List Value},bR W l cs→bR W l' cs'→bR W (l++l') (cs++cs')
 | [],_,cs,_,h,h'=>by have h:cs=[]:=h;subst h;exact h'
 | r::l,l',cs,cs',h,h'=>by
  obtain⟨a,c,b,d,cs1,rfl,i1,i2,h3⟩:=h
  exact⟨a,c,b,d,cs1++cs',rfl,i1,i2,pB h3 h'⟩
end
end Go.Proofs.YtfhinmdhjlmikaaGreat
namespace Go.Proofs.YtfhinmdhjlmikaaGreat
set_option linter.unusedSimpArgs false
set_option linter.unusedVariables false
set_option maxRecDepth 100000
open Go.RowKit
open Go.ChangeShapes Go.WideShapes Go.ChangeAt Go.RowKit
section
variable {H:Type} {enc:TypeId×Value→H} {W:World}
theorem xh {fuel:Nat} {l:List Value} {x:DataW H×List MemPlace} (hl:l.length=21) (hf:DataW.trod enc Tryz.prog W 0 (fun _=>true) true fuel 33 l=some x):
  ∃r0 r1 r2 r3 r4 r5 r6:Rq,bR W [r0,r1,r2,r3,r4,r5,r6] l:=by
 have hcq:Tryz.prog.cellsOf 29=12:=by kernel_rfl
 have hcv:Tryz.prog.cellsOf 31=9:=by kernel_rfl
 obtain⟨xs,n,_,hx,_,hlen,hg⟩:=DataW.trod_struct Tryz.underlying33 hf
 match xs,hlen with
 | [y0,y1],_=>
  have h0:=hg 0 _ rfl
  have h1:=hg 1 _ rfl
  simp[Value.cells,hcq,hcv]at h0 h1
  obtain⟨r0,r1,r2,r3,k0,_⟩:=xg (by simp;omega) h0
  obtain⟨r4,r5,r6,k1,_⟩:=z7 (by simp;omega) h1
  refine⟨r0,r1,r2,r3,r4,r5,r6,?_⟩
  have h:=pB k0 k1
  have e:l.take 12++(l.drop 12).take 9=l:=by rw[List.take_of_length_le (show(l.drop 12).length≤9 by simp;omega),List.take_append_drop]
  rw[e]at h
  exact h
theorem open_stw {fuel:Nat} {l:List Value} {x:DataW H×List MemPlace} (hl:l.length=22) (hf:DataW.trod enc Tryz.prog W 0 (fun _=>true) true fuel 35 l=some x):
  ∃(s:RSt) (cs:List Value),l= .int .i64 s.tm::cs∧bR W s.rs cs:=by
 have hci:Tryz.prog.cellsOf 3=1:=by kernel_rfl
 have hcp:Tryz.prog.cellsOf 33=21:=by kernel_rfl
 obtain⟨xs,n,_,hx,_,hlen,hg⟩:=DataW.trod_struct Tryz.underlying35 hf
 match xs,hlen with
 | [y0,y1],_=>
  have h0:=hg 0 _ rfl
  have h1:=hg 1 _ rfl
  simp[Value.cells,hci,hcp]at h0 h1
  match l,hl with
  | u::l,hl=>
   simp at h0 h1 hl
   obtain⟨t,h3,_⟩:=DataW.trod_int Tryz.underlying3 h0
   obtain rfl:u= .int .i64 t:=by simpa using h3
   rw[List.take_of_length_le (by omega)]at h1
   obtain⟨r0,r1,r2,r3,r4,r5,r6,k⟩:=xh hl h1
   exact⟨⟨t,r0,r1,r2,r3,r4,r5,r6⟩,l,rfl,k⟩
end
end Go.Proofs.YtfhinmdhjlmikaaGreat
namespace Go.Proofs.YtfhinmdhjlmikaaGreat
set_option linter.unusedSimpArgs false
set_option linter.unusedVariables false
set_option maxRecDepth 100000
open Go.RowKit
open Go.ChangeShapes Go.WideShapes Go.ChangeAt Go.RowKit
section
variable {H:Type} {enc:TypeId×Value→H} {W:World}
theorem um:∀ {rs:List Rq} {cs:List Value} {j:Nat} {q:Vp},bR W rs cs→(mN rs)[j]? =some q→∃u,cs[j]? =some u∧q.p W u∧∀g,¬q.fp W u g
 | [],_,_,_,_,h=>by simp[mN]at h
 | r::rs,cs,j,q,hc,h=>by
  obtain⟨a,c,b,d,cs',rfl,h1,h2,h3⟩:=hc
  simp only[mN,List.flatMap_cons]at h
  match j,h with
  | 0,h=>simp at h;subst h;exact⟨_,rfl,⟨rfl,fL⟩,fun _ h=>h⟩
  | 1,h=>simp at h;subst h;exact⟨_,rfl,h1,fun _ h=>h⟩
  | 2,h=>simp at h;subst h;exact⟨_,rfl,h2,fun _ h=>h⟩
  | j+3,h=>
   obtain⟨u,k1,k2⟩:=um (rs:=rs) (cs:=cs') (j:=j) (q:=q) h3 (by simpa [mN]using h)
   exact⟨u,by simpa using k1,k2⟩
theorem st_qs {x:RSt} {cs:List Value} {j:Nat} {q:Vp} (hc:bR W x.rs cs) (h:x.qs[j]? =some q):∃u,(.int .i64 x.tm::cs)[j]? =some u∧q.p W u∧∀g,¬q.fp W u g:=by
 cases j with
 | zero=>
  simp[RSt.qs]at h;subst h
  exact⟨_,rfl,⟨rfl,aE⟩,fun _ h=>h⟩
 | succ j=>
  obtain⟨u,k1,k2⟩:=um (j:=j) (q:=q) hc (by simpa [RSt.qs]using h)
  exact⟨u,by simpa using k1,k2⟩
end
end Go.Proofs.YtfhinmdhjlmikaaGreat
namespace Go.Proofs.YtfhinmdhjlmikaaGreat
set_option linter.unusedSimpArgs false
set_option linter.unusedVariables false
set_option maxRecDepth 100000
open Go.RowKit
open Go.ChangeShapes Go.WideShapes Go.ChangeAt Go.RowKit
section
variable {H:Type} {enc:TypeId×Value→H} {W:World}
theorem uo:∀ {R:List ROp} {j:Nat} {q:Vp},(cZ R)[j]? =some q→∃i x j',R[i]? =some x∧x.qs[j']? =some q∧j=i*23+j'∧j'<23
 | [],_,_,h=>by simp[cZ]at h
 | s::R,j,q,h=>by
  have h22:s.qs.length=23:=rfl
  simp only[cZ,List.flatMap_cons]at h
  by_cases hj:j<23
  ·rw[List.getElem?_append_left (by omega)]at h
   exact⟨0,s,j,rfl,h,by omega,hj⟩
  ·rw[List.getElem?_append_right (by omega),h22]at h
   obtain⟨i,x,j',h1,h2,h3,h4⟩:=uo (R:=R) h
   exact⟨i+1,x,j',by simpa using h1,h2,by omega,h4⟩
theorem open_opw {fuel:Nat} {l:List Value} {x:DataW H×List MemPlace} (hl:l.length=23) (hf:DataW.trod enc Tryz.prog W 0 (fun _=>true) true fuel 67 l=some x):
  ∃(k:Int) (s:RSt) (cs:List Value),l= .int .u8 k::.int .i64 s.tm::cs∧bR W s.rs cs:=by
 have hci:Tryz.prog.cellsOf 5=1:=by kernel_rfl
 have hcp:Tryz.prog.cellsOf 35=22:=by kernel_rfl
 obtain⟨xs,n,_,hx,_,hlen,hg⟩:=DataW.trod_struct Tryz.underlying67 hf
 match xs,hlen with
 | [y0,y1],_=>
  have h0:=hg 0 _ rfl
  have h1:=hg 1 _ rfl
  simp[Value.cells,hci,hcp]at h0 h1
  match l,hl with
  | u::l,hl=>
   simp at h0 h1 hl
   obtain⟨t,h3,_⟩:=DataW.trod_int Tryz.underlying5 h0
   obtain rfl:u= .int .u8 t:=by simpa using h3
   rw[List.take_of_length_le (by omega)]at h1
   obtain⟨s,cs,rfl,k⟩:=open_stw hl h1
   exact⟨t,s,cs,rfl,k⟩
theorem op_qs {x:ROp} {cs:List Value} {j:Nat} {q:Vp} (hc:bR W x.x.rs cs) (h:x.qs[j]? =some q):∃u,(.int .u8 x.k::.int .i64 x.x.tm::cs)[j]? =some u∧q.p W u∧∀g,¬q.fp W u g:=by
 cases j with
 | zero=>
  simp[ROp.qs]at h;subst h
  exact⟨_,rfl,⟨rfl,q8 (by decide)⟩,fun _ h=>h⟩
 | succ j=>
  obtain⟨u,k1,k2⟩:=st_qs (j:=j) (q:=q) hc (by simpa [ROp.qs]using h)
  exact⟨u,by simpa using k1,k2⟩
theorem open_ops {v:Value} {d:DataW H} {p:List MemPlace} {base:Nat} (hval:Value.okWide Tryz.prog W .any base 65 v) (h:DataW.Trod enc Tryz.prog W 0 (fun _=>true) true 65 v d p):
  ∃R:List ROp,(Vp.rowW R.length (cZ R)).p W v:=by
 obtain⟨a0,len0,cap0,rfl⟩:=okWide_slice Tryz.underlying65 hval
 obtain⟨fuel,hf⟩:=h
 have hc23:Tryz.prog.cellsOf 67=23:=by kernel_rfl
 rcases Go.Deep.open_slice Tryz.underlying65 hf with⟨hcs,_⟩ | ⟨a,len,cap,m,n,D,Pl,hcs,_,hlc,_,hm,_,hx⟩
 ·simp[Value.cells]at hcs
  obtain⟨rfl,rfl,rfl⟩:=hcs
  exact⟨[],.inl ⟨rfl,rfl,_,_,rfl⟩⟩
 ·simp[Value.cells]at hcs
  obtain⟨rfl,rfl,rfl⟩:=hcs
  have hlm:len0≤m:=by rw[hm];split<;>omega
  by_cases h0:len0=0
  ·subst h0
   exact⟨[],.inl ⟨rfl,rfl,_,_,rfl⟩⟩
  ·have hcells:∀i,i<len0→∃cs',(∀j,j<23→W.cell? ((a.add (i*23)).add j)=cs'[j]?)∧cs'.length=23∧DataW.trod enc Tryz.prog W 0 (fun _=>true) true n 67 cs'=some (D i,Pl i):=fun i hi=>by
    obtain⟨cs',h1,h2⟩:=hx i (by omega)
    rw[hc23]at h1
    obtain⟨_,hl,hcell⟩:=World.cells?_some h1
    exact⟨cs',hcell,hl,h2⟩
   obtain⟨b,o,spot⟩:=a
   have hspot:spot=none:=by
    obtain⟨cs',h1,h2,_⟩:=hcells 0 (by omega)
    have h3:=h1 0 (by omega)
    rw[List.getElem?_eq_getElem (show 0<cs'.length by omega)]at h3
    have h4:=World.cell?_spot h3
    simpa [Addr.add]using h4
   subst hspot
   simp only[dF]at hcells
   have hst:∀i,∃s:ROp,i<len0→∀(j:Nat) (q:Vp),s.qs[j]? =some q→∃u,W.cell? ⟨b,o+(i*23+j),none⟩=some u∧q.p W u∧∀g,¬q.fp W u g:=by
    intro i
    by_cases hi:i<len0
    ·obtain⟨cs',hcell,hl,h2⟩:=hcells i hi
     obtain⟨k,s,cs,rfl,hr⟩:=open_opw hl h2
     refine⟨⟨k,s⟩,fun _ j q hq=> ?_⟩
     obtain⟨u,k1,k2⟩:=op_qs (x:=⟨k,s⟩) hr hq
     have hj:j<23:=by have:=(List.getElem?_eq_some_iff.1 hq).1;exact this
     refine⟨u,?_,k2⟩
     rw[←Nat.add_assoc,hcell j hj];exact k1
    ·exact⟨⟨0,⟨0,Fq.zero.raw,Fq.zero.raw,Fq.zero.raw,Fq.zero.raw,Fq.zero.raw,Fq.zero.raw,Fq.zero.raw⟩⟩,fun h=>absurd h hi⟩
   obtain⟨f,hf'⟩:=Classical.axiomOfChoice hst
   refine⟨(List.range len0).map f,?_⟩
   have hlen:((List.range len0).map f).length=len0:=by simp
   rw[hlen]
   refine .inr ⟨b,o,cap0,rfl,h0,?_,fun j q hq=> ?_⟩
   ·obtain⟨cs',h1,h2,_⟩:=hcells 0 (by omega)
    have h3:=h1 0 (by omega)
    rw[List.getElem?_eq_getElem (show 0<cs'.length by omega)]at h3
    unfold World.cell? at h3
    split at h3
    ·rename_i hh
     exact(Array.getElem?_eq_some_iff.1 hh).1
    ·cases h3
   ·obtain⟨i,x,j',h1,h2,rfl,_⟩:=uo hq
    have hi:i<len0:=by have:=(List.getElem?_eq_some_iff.1 h1).1;rw[hlen]at this;exact this
    have e:x=f i:=by
     rw[List.getElem?_map,List.getElem?_range hi]at h1
     simpa using h1.symm
    subst e
    exact hf' i hi j' q h2
end
end Go.Proofs.YtfhinmdhjlmikaaGreat
