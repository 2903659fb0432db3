/- The law how poses are known between stamps. -/
import Derived.Test.YtfhinmdhjlmikaaGreatP20
namespace Go.Proofs.YtfhinmdhjlmikaaGreat
set_option linter.unusedSimpArgs false
set_option linter.unusedVariables false
set_option maxRecDepth 100000
open Go.RowKit
def gU (R:List RSt) (v:Value) (a:Int):List Fq:=[]
theorem iY {w:World} (R:List RSt) (v:Value) (a:Int) (hR:(Vp.rowW R.length (bc R)).p w v) (a0: -9223372036854775808≤a) (a1:a≤9223372036854775807) (hf:¬cR R 80):
  Calls Tryz.prog 5 #[v,.int .i64 a] w fun e w'=>bm w (.bool true) e w':=by
 refine(aH (ρ:=frs (gU R v a)++([.rowW R.length (bc R),.val (.int .i64 a)]:List Vp)) (w:=w) (fuel:=300) (args:=[.one (.ref 0),.one (.ref 1)]) (vs:=[v,.int .i64 a]) (r:=.v (.one (.b true))) (lo:=[]) (obs:=[])
  (af (cT (n:=0) (R:=R) (M:=80) (b:=false) rfl (by decide) (by classical exact decide_eq_false hf)) (af (bQ) ah))
  ai (by kernel_rfl) Tryz.func5 (by kernel_rfl) aG ⟨bJ (m:=0) rfl hR,⟨aD (n:=1) rfl az,trivial⟩⟩).mono ?_
 rintro e w' ⟨v,rfl,h1,h2⟩
 exact⟨congrArg Ending.returned h1,h2⟩
def gV (R:List RSt) (v:Value) (a:Int) (j:Nat) (x:RSt):List Fq:=[]
theorem iZ {w:World} (R:List RSt) (v:Value) (a:Int) (hR:(Vp.rowW R.length (bc R)).p w v) (a0: -9223372036854775808≤a) (a1:a≤9223372036854775807) (hf:cR R 80) (j:Nat) (x:RSt) (hx:R[j]? =some x) (hA:cm R j) (hc:(bE (aB R j) x).2≠0):
  Calls Tryz.prog 5 #[v,.int .i64 a] w fun e w'=>bm w (.bool true) e w':=by
 refine(aH (ρ:=frs (gV R v a j x)++([.rowW R.length (bc R),.val (.int .i64 a),.val (.int .i64 ((bE (aB R j) x).2))]:List Vp)) (w:=w) (fuel:=300) (args:=[.one (.ref 0),.one (.ref 1)]) (vs:=[v,.int .i64 a]) (r:=.v (.one (.b true))) (lo:=[]) (obs:=[])
  (af (cT (n:=0) (R:=R) (M:=80) (b:=true) rfl (by decide) (by classical exact decide_eq_true hf)) (af (vl (n:=0) (c:=2) (R:=R) (j:=j) (x:=x) rfl rfl hf.2 (Nat.le_trans hf.1 (by decide)) hx hA hc) (af (bQ) ah)))
  (ae (aA (t:=40) (aj (n:=2) rfl) (aJ (c:=0)) (fA (by omega))) (ae (uu (t:=39) ⟨_,Tryz.underlying39⟩) (ai))) (by kernel_rfl) Tryz.func5 (by kernel_rfl) aG ⟨bJ (m:=0) rfl hR,⟨aD (n:=1) rfl az,trivial⟩⟩).mono ?_
 rintro e w' ⟨v,rfl,h1,h2⟩
 exact⟨congrArg Ending.returned h1,h2⟩
noncomputable def gX (R:List RSt) (v:Value) (a:Int):List Fq:=(atP zst zst 6 a).cs
theorem i4 {w:World} (R:List RSt) (v:Value) (a:Int) (hR:(Vp.rowW R.length (bc R)).p w v) (a0: -9223372036854775808≤a) (a1:a≤9223372036854775807) (hf:cR R 80) (hA:cm R R.length) (hs2:(cg (aB R R.length)).2.2=false) (hn:R.length=0) (hr:Road (aB R R.length) a zst zst 6):
  Calls Tryz.prog 5 #[v,.int .i64 a] w fun e w'=>bm w (.bool true) e w':=by
 refine(aH (ρ:=frs (gX R v a)++([.rowW R.length (bc R),.val (.int .i64 a),.row stT (aB R R.length).length (aF (aB R R.length)),.val (.int .i64 ((cg (aB R R.length)).1)),.val (.int .i64 ((cg (aB R R.length)).2.1)),.val (.int .i64 (R.length:Int))]:List Vp)) (w:=w) (fuel:=300) (args:=[.one (.ref 21),.one (.ref 22)]) (vs:=[v,.int .i64 a]) (r:=.v (.one (.b true))) (lo:=[]) (obs:=[])
  (af (cT (n:=21) (R:=R) (M:=80) (b:=true) rfl (by decide) (by classical exact decide_eq_true hf)) (af (bQ) ah))
  (ae (eH (n:=21) (m:=23) (k:=0) (u:=0) (R:=R) (r:=.one .sl0) rfl rfl hf.2 (Nat.le_trans hf.1 (by decide)) hA) (ae (ba (y:=0) (o:=0) (t:=39) ⟨_,Tryz.underlying39⟩) (ae (kX (u:=0) (l:=.own 0 23) (S:=(aB R R.length)) (s1:=24) (s2:=25) (b:=false) (r:=.one .sl0) (dp (m:=23) rfl) (aE hf.2 R.length (Nat.le_refl _)) rfl rfl hs2) (ae (eF (u:=0) (l:=.own 0 23) (z:=zst) (y:=zst) (c:=6) (a:=a) (lc:=.i .i64 6) (kr:=[0,1,2,3,4,5,6]) (r:=.one .sl0) (dp (m:=23) rfl) (bf (aj (n:=22) rfl) (by omega)) (aE hf.2 R.length (Nat.le_refl _)) hr ⟨rfl,rfl,rfl,rfl,rfl,rfl,rfl,trivial⟩ (fun _ _=>rfl)) (ae (cZ (n:=21) (t:=22) ⟨_,Tryz.underlying22⟩ rfl (l:=.ref 26) (fun _ _=>aD rfl az)) (ae (aA (t:=3) (aj (n:=26) rfl) (aJ (c:=0)) (aX (by omega))) (ae (aA (t:=3) (aj (n:=26) rfl) (aJ (c:=0)) (dj (by omega))) (ai)))))))) (by kernel_rfl) Tryz.func5 (by kernel_rfl) aG ⟨bJ (m:=21) rfl hR,⟨aD (n:=22) rfl az,trivial⟩⟩).mono ?_
 rintro e w' ⟨v,rfl,h1,h2⟩
 exact⟨congrArg Ending.returned h1,h2⟩
noncomputable def gt (R:List RSt) (v:Value) (a:Int) (f l:Int):List Fq:=(atP zst zst 17 a).cs
theorem hJ {w:World} (R:List RSt) (v:Value) (a:Int) (hR:(Vp.rowW R.length (bc R)).p w v) (a0: -9223372036854775808≤a) (a1:a≤9223372036854775807) (hf:cR R 80) (hA:cm R R.length) (f l:Int) (hs0:(cg (aB R R.length)).1=f) (hs1:(cg (aB R R.length)).2.1=l) (hs2:(cg (aB R R.length)).2.2=true) (hn:0<R.length) (ha:a<f) (hr:Road (aB R R.length) a zst zst 17):
  Calls Tryz.prog 5 #[v,.int .i64 a] w fun e w'=>bm w (.bool true) e w':=by
 refine(aH (ρ:=frs (gt R v a f l)++([.rowW R.length (bc R),.val (.int .i64 a),.row stT (aB R R.length).length (aF (aB R R.length)),.val (.int .i64 ((cg (aB R R.length)).1)),.val (.int .i64 ((cg (aB R R.length)).2.1)),.val (.int .i64 (R.length:Int))]:List Vp)) (w:=w) (fuel:=300) (args:=[.one (.ref 21),.one (.ref 22)]) (vs:=[v,.int .i64 a]) (r:=.v (.one (.b true))) (lo:=[]) (obs:=[])
  (af (cT (n:=21) (R:=R) (M:=80) (b:=true) rfl (by decide) (by classical exact decide_eq_true hf)) (af (bQ) ah))
  (ae (eH (n:=21) (m:=23) (k:=0) (u:=0) (R:=R) (r:=.one .sl0) rfl rfl hf.2 (Nat.le_trans hf.1 (by decide)) hA) (ae (ba (y:=0) (o:=0) (t:=39) ⟨_,Tryz.underlying39⟩) (ae (kX (u:=0) (l:=.own 0 23) (S:=(aB R R.length)) (s1:=24) (s2:=25) (b:=true) (r:=.one .sl0) (dp (m:=23) rfl) (aE hf.2 R.length (Nat.le_refl _)) rfl rfl hs2) (ae (eF (u:=0) (l:=.own 0 23) (z:=zst) (y:=zst) (c:=17) (a:=a) (lc:=.i .i64 17) (kr:=[0,1,2,3,4,5,6]) (r:=.one .sl0) (dp (m:=23) rfl) (bf (aj (n:=22) rfl) (by omega)) (aE hf.2 R.length (Nat.le_refl _)) hr ⟨rfl,rfl,rfl,rfl,rfl,rfl,rfl,trivial⟩ (fun _ _=>rfl)) (ae (cZ (n:=21) (t:=22) ⟨_,Tryz.underlying22⟩ rfl (l:=.ref 26) (fun _ _=>aD rfl az)) (ae (aA (t:=3) (aj (n:=26) rfl) (aJ (c:=0)) (bD (by omega))) (ae (aA (t:=3) (aj (n:=22) rfl) (aj (n:=24) rfl) (aaA (by omega))) (ae (aA (t:=3) (aj (n:=26) rfl) (aJ (c:=0)) (bu (by omega))) (ai))))))))) (by kernel_rfl) Tryz.func5 (by kernel_rfl) aG ⟨bJ (m:=21) rfl hR,⟨aD (n:=22) rfl az,trivial⟩⟩).mono ?_
 rintro e w' ⟨v,rfl,h1,h2⟩
 exact⟨congrArg Ending.returned h1,h2⟩
noncomputable def gw (R:List RSt) (v:Value) (a:Int) (f l:Int):List Fq:=(atP zst zst 17 a).cs
theorem hZ {w:World} (R:List RSt) (v:Value) (a:Int) (hR:(Vp.rowW R.length (bc R)).p w v) (a0: -9223372036854775808≤a) (a1:a≤9223372036854775807) (hf:cR R 80) (hA:cm R R.length) (f l:Int) (hs0:(cg (aB R R.length)).1=f) (hs1:(cg (aB R R.length)).2.1=l) (hs2:(cg (aB R R.length)).2.2=true) (hn:0<R.length) (hb:f≤a) (ha:l<a) (hr:Road (aB R R.length) a zst zst 17):
  Calls Tryz.prog 5 #[v,.int .i64 a] w fun e w'=>bm w (.bool true) e w':=by
 refine(aH (ρ:=frs (gw R v a f l)++([.rowW R.length (bc R),.val (.int .i64 a),.row stT (aB R R.length).length (aF (aB R R.length)),.val (.int .i64 ((cg (aB R R.length)).1)),.val (.int .i64 ((cg (aB R R.length)).2.1)),.val (.int .i64 (R.length:Int))]:List Vp)) (w:=w) (fuel:=300) (args:=[.one (.ref 21),.one (.ref 22)]) (vs:=[v,.int .i64 a]) (r:=.v (.one (.b true))) (lo:=[]) (obs:=[])
  (af (cT (n:=21) (R:=R) (M:=80) (b:=true) rfl (by decide) (by classical exact decide_eq_true hf)) (af (bQ) ah))
  (ae (eH (n:=21) (m:=23) (k:=0) (u:=0) (R:=R) (r:=.one .sl0) rfl rfl hf.2 (Nat.le_trans hf.1 (by decide)) hA) (ae (ba (y:=0) (o:=0) (t:=39) ⟨_,Tryz.underlying39⟩) (ae (kX (u:=0) (l:=.own 0 23) (S:=(aB R R.length)) (s1:=24) (s2:=25) (b:=true) (r:=.one .sl0) (dp (m:=23) rfl) (aE hf.2 R.length (Nat.le_refl _)) rfl rfl hs2) (ae (eF (u:=0) (l:=.own 0 23) (z:=zst) (y:=zst) (c:=17) (a:=a) (lc:=.i .i64 17) (kr:=[0,1,2,3,4,5,6]) (r:=.one .sl0) (dp (m:=23) rfl) (bf (aj (n:=22) rfl) (by omega)) (aE hf.2 R.length (Nat.le_refl _)) hr ⟨rfl,rfl,rfl,rfl,rfl,rfl,rfl,trivial⟩ (fun _ _=>rfl)) (ae (cZ (n:=21) (t:=22) ⟨_,Tryz.underlying22⟩ rfl (l:=.ref 26) (fun _ _=>aD rfl az)) (ae (aA (t:=3) (aj (n:=26) rfl) (aJ (c:=0)) (bD (by omega))) (ae (aA (t:=3) (aj (n:=22) rfl) (aj (n:=24) rfl) (oc (by omega))) (ae (aA (t:=3) (aj (n:=22) rfl) (aj (n:=25) rfl) (dU (by omega))) (ae (aA (t:=3) (aj (n:=26) rfl) (aJ (c:=0)) (bu (by omega))) (ai)))))))))) (by kernel_rfl) Tryz.func5 (by kernel_rfl) aG ⟨bJ (m:=21) rfl hR,⟨aD (n:=22) rfl az,trivial⟩⟩).mono ?_
 rintro e w' ⟨v,rfl,h1,h2⟩
 exact⟨congrArg Ending.returned h1,h2⟩
def gY (R:List RSt) (v:Value) (a:Int) (f l:Int) (y:St):List Fq:=y.pose.cs
theorem i5 {w:World} (R:List RSt) (v:Value) (a:Int) (hR:(Vp.rowW R.length (bc R)).p w v) (a0: -9223372036854775808≤a) (a1:a≤9223372036854775807) (hf:cR R 80) (hA:cm R R.length) (f l:Int) (hs0:(cg (aB R R.length)).1=f) (hs1:(cg (aB R R.length)).2.1=l) (hs2:(cg (aB R R.length)).2.2=true) (hn:0<R.length) (hb:f≤a) (ha:a≤l) (y:St) (ey:y.tm=a) (hr:Road (aB R R.length) a y y 0):
  Calls Tryz.prog 5 #[v,.int .i64 a] w fun e w'=>bm w (.bool true) e w':=by
 have gy:=(uZ (aE hf.2 R.length (Nat.le_refl _)) hr rfl).1
 have t0:=gy.lo
 have t1:=gy.hi
 refine(aH (ρ:=frs (gY R v a f l y)++([.rowW R.length (bc R),.val (.int .i64 a),.row stT (aB R R.length).length (aF (aB R R.length)),.val (.int .i64 ((cg (aB R R.length)).1)),.val (.int .i64 ((cg (aB R R.length)).2.1)),.val (.int .i64 (R.length:Int)),.val (.int .i64 y.tm)]:List Vp)) (w:=w) (fuel:=300) (args:=[.one (.ref 21),.one (.ref 22)]) (vs:=[v,.int .i64 a]) (r:=.v (.one (.b true))) (lo:=[]) (obs:=[])
  (af (cT (n:=21) (R:=R) (M:=80) (b:=true) rfl (by decide) (by classical exact decide_eq_true hf)) (af (pN (ka:=[0,1,2,3,4,5,6]) (a:=y.pose) ⟨rfl,rfl,rfl,rfl,rfl,rfl,rfl,trivial⟩ (gy.ok.mono (by decide)) gy.good) (af (gP (ka:=[0,1,2,3,4,5,6]) (a:=y.pose) (kb:=[0,1,2,3,4,5,6]) (b:=y.pose) ⟨rfl,rfl,rfl,rfl,rfl,rfl,rfl,trivial⟩ ⟨rfl,rfl,rfl,rfl,rfl,rfl,rfl,trivial⟩ (gy.ok.mono (by decide)) (gy.ok.mono (by decide)) rfl) (af (bQ) ah))))
  (ae (eH (n:=21) (m:=23) (k:=0) (u:=0) (R:=R) (r:=.one .sl0) rfl rfl hf.2 (Nat.le_trans hf.1 (by decide)) hA) (ae (ba (y:=0) (o:=0) (t:=39) ⟨_,Tryz.underlying39⟩) (ae (kX (u:=0) (l:=.own 0 23) (S:=(aB R R.length)) (s1:=24) (s2:=25) (b:=true) (r:=.one .sl0) (dp (m:=23) rfl) (aE hf.2 R.length (Nat.le_refl _)) rfl rfl hs2) (ae (I_AtE (u:=0) (l:=.own 0 23) (z:=y) (y:=y) (a:=a) (E:=y.pose) (kr:=[0,1,2,3,4,5,6]) (r:=.one .sl0) (dp (m:=23) rfl) (bf (aj (n:=22) rfl) (by omega)) (aE hf.2 R.length (Nat.le_refl _)) hr (atP_q _ _) ⟨rfl,rfl,rfl,rfl,rfl,rfl,rfl,trivial⟩) (ae (cZ (n:=21) (t:=22) ⟨_,Tryz.underlying22⟩ rfl (l:=.ref 26) (fun _ _=>aD rfl az)) (ae (aA (t:=3) (aj (n:=26) rfl) (aJ (c:=0)) (bD (by omega))) (ae (aA (t:=3) (aj (n:=22) rfl) (aj (n:=24) rfl) (oc (by omega))) (ae (aA (t:=3) (aj (n:=22) rfl) (aj (n:=25) rfl) (cG (by omega))) (ae (eh (u:=0) (l:=.own 0 23) (z:=y) (y:=y) (c:=0) (a:=a) (lc:=.i .i64 0) (n0:=27) (k0:=[0,1,2,3,4,5,6]) (n1:=27) (k1:=[0,1,2,3,4,5,6]) (r:=.one .sl0) (dp (m:=23) rfl) (bf (aj (n:=22) rfl) (by omega)) (aE hf.2 R.length (Nat.le_refl _)) hr rfl ⟨rfl,rfl,rfl,rfl,rfl,rfl,rfl,trivial⟩ rfl ⟨rfl,rfl,rfl,rfl,rfl,rfl,rfl,trivial⟩ (fun _ _=>rfl)) (ae (aA (t:=3) (aj (n:=27) rfl) (aj (n:=22) rfl) (aX (by omega))) (ae (aA (t:=3) (aj (n:=27) rfl) (aj (n:=22) rfl) (aU (by omega))) (ae (aA (t:=3) (aj (n:=27) rfl) (aj (n:=22) rfl) (dj (by omega))) (ae (aA (t:=3) (aj (n:=27) rfl) (aj (n:=27) rfl) (dj (by omega))) (ai)))))))))))))) (by kernel_rfl) Tryz.func5 (by kernel_rfl) aG ⟨bJ (m:=21) rfl hR,⟨aD (n:=22) rfl az,trivial⟩⟩).mono ?_
 rintro e w' ⟨v,rfl,h1,h2⟩
 exact⟨congrArg Ending.returned h1,h2⟩
def gZ (R:List RSt) (v:Value) (a:Int) (f l:Int) (z y:St):List Fq:=(y.pose.cs++(z.pose.cs++((Pq.mk (z.pose.rot.way (z.pose.rot.inv.mul y.pose.rot) (Fq.ratio (a - z.tm) (y.tm - z.tm))) (z.pose.pos.lerp y.pose.pos (Fq.ratio (a - z.tm) (y.tm - z.tm)))).cs++([(Fq.ratio (a - z.tm) (y.tm - z.tm)),(z.pose.pos.lerp y.pose.pos (Fq.ratio (a - z.tm) (y.tm - z.tm))).x,(z.pose.pos.lerp y.pose.pos (Fq.ratio (a - z.tm) (y.tm - z.tm))).y,(z.pose.pos.lerp y.pose.pos (Fq.ratio (a - z.tm) (y.tm - z.tm))).z]))))
theorem i6 {w:World} (R:List RSt) (v:Value) (a:Int) (hR:(Vp.rowW R.length (bc R)).p w v) (a0: -9223372036854775808≤a) (a1:a≤9223372036854775807) (hf:cR R 80) (hA:cm R R.length) (f l:Int) (hs0:(cg (aB R R.length)).1=f) (hs1:(cg (aB R R.length)).2.1=l) (hs2:(cg (aB R R.length)).2.2=true) (hn:0<R.length) (hb:f≤a) (ha:a≤l) (z y:St) (ez:z.tm<a) (ey:a<y.tm) (hr:Road (aB R R.length) a z y 0):
  Calls Tryz.prog 5 #[v,.int .i64 a] w fun e w'=>bm w (.bool true) e w':=by
 obtain⟨gz,gy,_⟩:=uZ (aE hf.2 R.length (Nat.le_refl _)) hr rfl
 have t0:=gz.lo
 have t1:=gy.hi
 have t2:=gz.hi
 have t3:=gy.lo
 have hE:=atP_m (a:=a) (z:=z) (y:=y) (by omega)
 have gk:=fZ (aE hf.2 R.length (Nat.le_refl _)) hr
 rw[hE]at gk
 have gW:=gk.1
 have kW:=gk.2
 refine(aH (ρ:=frs (gZ R v a f l z y)++([.rowW R.length (bc R),.val (.int .i64 a),.row stT (aB R R.length).length (aF (aB R R.length)),.val (.int .i64 ((cg (aB R R.length)).1)),.val (.int .i64 ((cg (aB R R.length)).2.1)),.val (.int .i64 (R.length:Int)),.val (.int .i64 z.tm),.val (.int .i64 y.tm),.val (.int .i64 (a - z.tm)),.val (.int .i64 (y.tm - z.tm))]:List Vp)) (w:=w) (fuel:=300) (args:=[.one (.ref 75),.one (.ref 76)]) (vs:=[v,.int .i64 a]) (r:=.v (.one (.b true))) (lo:=[]) (obs:=[])
  (af (cT (n:=75) (R:=R) (M:=80) (b:=true) rfl (by decide) (by classical exact decide_eq_true hf)) (af (pN (ka:=[14,15,16,17,18,19,20]) (a:=(Pq.mk (z.pose.rot.way (z.pose.rot.inv.mul y.pose.rot) (Fq.ratio (a - z.tm) (y.tm - z.tm))) (z.pose.pos.lerp y.pose.pos (Fq.ratio (a - z.tm) (y.tm - z.tm))))) ⟨rfl,rfl,rfl,rfl,rfl,rfl,rfl,trivial⟩ (kW.mono (by decide)) gW) (af (sx (v:=(a - z.tm)) (u:=(y.tm - z.tm)) (k:=21) (aj (n:=83) rfl) (aj (n:=84) rfl) (by omega) (by omega) (by omega) (by omega) (by omega) rfl) (af (aal (ka:=[11,12,13]) (a:=z.pose.pos) (kb:=[4,5,6]) (b:=y.pose.pos) (ik:=21) (kr:=[22,23,24]) ⟨rfl,rfl,rfl,trivial⟩ ⟨rfl,rfl,rfl,trivial⟩ rfl ⟨rfl,rfl,rfl,trivial⟩ (gz.ok.pos.mono (by decide)) (gy.ok.pos.mono (by decide)) ((eC (v:=(a - z.tm)) (u:=(y.tm - z.tm)) (by omega) (by omega) (by omega) (by omega) (by omega)).mono (by decide))) (af (jS (ka:=[18,19,20]) (a:=(Pq.mk (z.pose.rot.way (z.pose.rot.inv.mul y.pose.rot) (Fq.ratio (a - z.tm) (y.tm - z.tm))) (z.pose.pos.lerp y.pose.pos (Fq.ratio (a - z.tm) (y.tm - z.tm)))).pos) (kb:=[22,23,24]) (b:=(z.pose.pos.lerp y.pose.pos (Fq.ratio (a - z.tm) (y.tm - z.tm)))) ⟨rfl,rfl,rfl,trivial⟩ ⟨rfl,rfl,rfl,trivial⟩ (kW.pos.mono (by decide)) ((gz.ok.pos.lerp gy.ok.pos (eC (v:=(a - z.tm)) (u:=(y.tm - z.tm)) (by omega) (by omega) (by omega) (by omega) (by omega))).mono (by decide)) rfl) (af (bQ) ah))))))
  (ae (eH (n:=75) (m:=77) (k:=0) (u:=0) (R:=R) (r:=.one .sl0) rfl rfl hf.2 (Nat.le_trans hf.1 (by decide)) hA) (ae (ba (y:=0) (o:=0) (t:=39) ⟨_,Tryz.underlying39⟩) (ae (kX (u:=0) (l:=.own 0 77) (S:=(aB R R.length)) (s1:=78) (s2:=79) (b:=true) (r:=.one .sl0) (dp (m:=77) rfl) (aE hf.2 R.length (Nat.le_refl _)) rfl rfl hs2) (ae (I_AtE (u:=0) (l:=.own 0 77) (z:=z) (y:=y) (a:=a) (E:=(Pq.mk (z.pose.rot.way (z.pose.rot.inv.mul y.pose.rot) (Fq.ratio (a - z.tm) (y.tm - z.tm))) (z.pose.pos.lerp y.pose.pos (Fq.ratio (a - z.tm) (y.tm - z.tm))))) (kr:=[14,15,16,17,18,19,20]) (r:=.one .sl0) (dp (m:=77) rfl) (bf (aj (n:=76) rfl) (by omega)) (aE hf.2 R.length (Nat.le_refl _)) hr hE ⟨rfl,rfl,rfl,rfl,rfl,rfl,rfl,trivial⟩) (ae (cZ (n:=75) (t:=22) ⟨_,Tryz.underlying22⟩ rfl (l:=.ref 80) (fun _ _=>aD rfl az)) (ae (aA (t:=3) (aj (n:=80) rfl) (aJ (c:=0)) (bD (by omega))) (ae (aA (t:=3) (aj (n:=76) rfl) (aj (n:=78) rfl) (oc (by omega))) (ae (aA (t:=3) (aj (n:=76) rfl) (aj (n:=79) rfl) (cG (by omega))) (ae (eh (u:=0) (l:=.own 0 77) (z:=z) (y:=y) (c:=0) (a:=a) (lc:=.i .i64 0) (n0:=81) (k0:=[7,8,9,10,11,12,13]) (n1:=82) (k1:=[0,1,2,3,4,5,6]) (r:=.one .sl0) (dp (m:=77) rfl) (bf (aj (n:=76) rfl) (by omega)) (aE hf.2 R.length (Nat.le_refl _)) hr rfl ⟨rfl,rfl,rfl,rfl,rfl,rfl,rfl,trivial⟩ rfl ⟨rfl,rfl,rfl,rfl,rfl,rfl,rfl,trivial⟩ (fun _ _=>rfl)) (ae (aA (t:=3) (aj (n:=81) rfl) (aj (n:=76) rfl) (aX (by omega))) (ae (aA (t:=3) (aj (n:=82) rfl) (aj (n:=76) rfl) (aU (by omega))) (ae (aA (t:=3) (aj (n:=81) rfl) (aj (n:=76) rfl) (bu (by omega))) (ae (aA (t:=3) (aj (n:=82) rfl) (aj (n:=76) rfl) (bu (by omega))) (ae (cE (m:=83) (t:=3) (aj (n:=76) rfl) (aj (n:=81) rfl) rfl rfl (by omega) (by omega)) (ae (cE (m:=84) (t:=3) (aj (n:=82) rfl) (aj (n:=81) rfl) rfl rfl (by omega) (by omega)) (ai)))))))))))))))) (by kernel_rfl) Tryz.func5 (by kernel_rfl) aG ⟨bJ (m:=75) rfl hR,⟨aD (n:=76) rfl az,trivial⟩⟩).mono ?_
 rintro e w' ⟨v,rfl,h1,h2⟩
 exact⟨congrArg Ending.returned h1,h2⟩
theorem ju (v:Value) (R:List RSt) (a:Int) (w:World) (hR:(Vp.rowW R.length (bc R)).p w v) (wa:(Lit.int .i64 a).wf=true):Calls Tryz.prog 5 #[v,.int .i64 a] w fun e w'=>bm w (.bool true) e w':=by
 obtain⟨a0,a1⟩:=wf64 wa
 by_cases hf:cR R 80
 ·rcases qS R with hA | ⟨j,x,hx,hA,hc⟩
  ·obtain⟨z,y,c,hr⟩:=road (aE hf.2 R.length (Nat.le_refl _)) a
   have hr':=hr
   by_cases hn:R.length=0
   ·have e:R=[]:=List.eq_nil_of_length_eq_zero hn
    subst e
    exact i4 [] v a hR a0 a1 hf hA rfl rfl (.E rfl)
   ·have hn:0<R.length:=by omega
    have h0:=abj hA hn
    cases hr with
    | E h=>omega
    | O1 f hf' _ ha=>
     obtain⟨l,hl⟩:∃f,(aB R R.length)[(aB R R.length).length - 1]? =some f:=⟨_,List.getElem?_eq_getElem (by omega)⟩
     have e:=m8 hf' hl
     exact hJ R v a hR a0 a1 hf hA f.tm l.tm (by rw[e]) (by rw[e]) (by rw[e]) hn ha hr'
    | O2 f hf' hb l hl _ ha=>
     have e:=m8 hf' hl
     exact hZ R v a hR a0 a1 hf hA f.tm l.tm (by rw[e]) (by rw[e]) (by rw[e]) hn hb ha hr'
    | Q f hf' hb l hl _ ha y hy ey hp eq1=>
     have e:=m8 hf' hl
     exact i5 R v a hR a0 a1 hf hA f.tm l.tm (by rw[e]) (by rw[e]) (by rw[e]) hn hb ha _ ey hr'
    | M f hf' hb l hl _ ha y hy ey hp h1 eq1 z hz=>
     have e:=m8 hf' hl
     have q:=di (S:=aB R R.length) (a:=a) (k:=plN (aB R R.length) a - 1) (by omega)
     obtain⟨z',h2,h3⟩:=q
     rw[hz]at h2;injection h2 with h2;subst h2
     exact i6 R v a hR a0 a1 hf hA f.tm l.tm (by rw[e]) (by rw[e]) (by rw[e]) hn hb ha _ _ h3 ey hr'
  ·exact iZ R v a hR a0 a1 hf j x hx hA hc
 ·exact iY R v a hR a0 a1 hf
end Go.Proofs.YtfhinmdhjlmikaaGreat
