/- The law what dropping leaves. -/
import Derived.Test.YtfhinmdhjlmikaaGreatP20
namespace Go.Proofs.YtfhinmdhjlmikaaGreat
set_option linter.unusedSimpArgs false
set_option linter.unusedVariables false
set_option maxRecDepth 100000
open Go.RowKit
def mA (R:List RSt) (v:Value) (b a:Int):List Fq:=[]
theorem oW {w:World} (R:List RSt) (v:Value) (b a:Int) (hR:(Vp.rowW R.length (bc R)).p w v) (hf:¬cR R 80):
  Calls Tryz.prog 6 #[v,.int .i64 b,.int .i64 a] w fun e w'=>bm w (.bool true) e w':=by
 refine(aH (ρ:=frs (mA R v b a)++([.rowW R.length (bc R),.val (.int .i64 b),.val (.int .i64 a)]:List Vp)) (w:=w) (fuel:=300) (args:=[.one (.ref 0),.one (.ref 1),.one (.ref 2)]) (vs:=[v,.int .i64 b,.int .i64 a]) (r:=.v (.one (.b true))) (lo:=[]) (obs:=[])
  (af (cT (n:=0) (R:=R) (M:=80) (b:=false) rfl (by decide) (by classical exact decide_eq_false hf)) (af (bQ) ah))
  ai (by kernel_rfl) Tryz.func6 (by kernel_rfl) aG ⟨bJ (m:=0) rfl hR,⟨aD (n:=1) rfl az,⟨aD (n:=2) rfl az,trivial⟩⟩⟩).mono ?_
 rintro e w' ⟨v,rfl,h1,h2⟩
 exact⟨congrArg Ending.returned h1,h2⟩
def mB (R:List RSt) (v:Value) (b a:Int) (j:Nat) (x:RSt):List Fq:=[]
theorem oX {w:World} (R:List RSt) (v:Value) (b a:Int) (hR:(Vp.rowW R.length (bc R)).p w v) (hf:cR R 80) (j:Nat) (x:RSt) (hx:R[j]? =some x) (hA:cm R j) (hc:(bE (aB R j) x).2≠0):
  Calls Tryz.prog 6 #[v,.int .i64 b,.int .i64 a] w fun e w'=>bm w (.bool true) e w':=by
 refine(aH (ρ:=frs (mB R v b a j x)++([.rowW R.length (bc R),.val (.int .i64 b),.val (.int .i64 a),.val (.int .i64 ((bE (aB R j) x).2))]:List Vp)) (w:=w) (fuel:=300) (args:=[.one (.ref 0),.one (.ref 1),.one (.ref 2)]) (vs:=[v,.int .i64 b,.int .i64 a]) (r:=.v (.one (.b true))) (lo:=[]) (obs:=[])
  (af (cT (n:=0) (R:=R) (M:=80) (b:=true) rfl (by decide) (by classical exact decide_eq_true hf)) (af (vl (n:=0) (c:=3) (R:=R) (j:=j) (x:=x) rfl rfl hf.2 (Nat.le_trans hf.1 (by decide)) hx hA hc) (af (bQ) ah)))
  (ae (aA (t:=40) (aj (n:=3) rfl) (aJ (c:=0)) (fA (by omega))) (ae (uu (t:=39) ⟨_,Tryz.underlying39⟩) (ai))) (by kernel_rfl) Tryz.func6 (by kernel_rfl) aG ⟨bJ (m:=0) rfl hR,⟨aD (n:=1) rfl az,⟨aD (n:=2) rfl az,trivial⟩⟩⟩).mono ?_
 rintro e w' ⟨v,rfl,h1,h2⟩
 exact⟨congrArg Ending.returned h1,h2⟩
noncomputable def mC (R:List RSt) (v:Value) (b a:Int) (z y:St):List Fq:=(atP z y 0 (max b a)).cs
theorem oY {w:World} (R:List RSt) (v:Value) (b a:Int) (hR:(Vp.rowW R.length (bc R)).p w v) (hf:cR R 80) (hA:cm R R.length) (z y:St) (hr:Road (aB R R.length) (max b a) z y 0):
  Calls Tryz.prog 6 #[v,.int .i64 b,.int .i64 a] w fun e w'=>bm w (.bool true) e w':=by
 have hSl:=(aE hf.2 R.length (Nat.le_refl _)).len
 have hle:=bi (aB R R.length) (b+1)
 have hdl:(List.drop (plN (aB R R.length) (b+1) - 1) (aB R R.length)).length=(aB R R.length).length - (plN (aB R R.length) (b+1) - 1):=List.length_drop ..
 refine(aH (ρ:=frs (mC R v b a z y)++([.rowW R.length (bc R),.val (.int .i64 b),.val (.int .i64 a),.row stT (aB R R.length).length (aF (aB R R.length)),.val (.int .i64 (max b a)),.val (.int .i64 ((aB R R.length).length:Int)),.row stT (List.drop (plN (aB R R.length) (b+1) - 1) (aB R R.length)).length (aF (List.drop (plN (aB R R.length) (b+1) - 1) (aB R R.length))),.val (.int .i64 ((plN (aB R R.length) (b+1) - 1:Nat):Int)),.val (.int .i64 ((List.drop (plN (aB R R.length) (b+1) - 1) (aB R R.length)).length:Int)),.val (.int .i64 (((aB R R.length).length:Int) - ((plN (aB R R.length) (b+1) - 1:Nat):Int)))]:List Vp)) (w:=w) (fuel:=300) (args:=[.one (.ref 21),.one (.ref 22),.one (.ref 23)]) (vs:=[v,.int .i64 b,.int .i64 a]) (r:=.v (.one (.b true))) (lo:=[]) (obs:=[])
  (af (cT (n:=21) (R:=R) (M:=80) (b:=true) rfl (by decide) (by classical exact decide_eq_true hf)) (af (gP (ka:=[0,1,2,3,4,5,6]) (a:=(atP z y 0 (max b a))) (kb:=[0,1,2,3,4,5,6]) (b:=(atP z y 0 (max b a))) ⟨rfl,rfl,rfl,rfl,rfl,rfl,rfl,trivial⟩ ⟨rfl,rfl,rfl,rfl,rfl,rfl,rfl,trivial⟩ ((fZ ((aE hf.2 R.length (Nat.le_refl _)).drop _) (jq (a:=b) (aE hf.2 R.length (Nat.le_refl _)) (by omega) hr)).2.mono (by decide)) ((fZ ((aE hf.2 R.length (Nat.le_refl _)).drop _) (jq (a:=b) (aE hf.2 R.length (Nat.le_refl _)) (by omega) hr)).2.mono (by decide)) rfl) (af (bQ) ah)))
  (ae (eH (n:=21) (m:=24) (k:=0) (u:=0) (R:=R) (r:=.one .sl0) rfl rfl hf.2 (Nat.le_trans hf.1 (by decide)) hA) (ae (ba (y:=0) (o:=0) (t:=39) ⟨_,Tryz.underlying39⟩) (ae (o_max (m:=25) (aj (n:=22) rfl) (aj (n:=23) rfl) rfl) (ae (eF (u:=0) (l:=.own 0 24) (z:=z) (y:=y) (c:=0) (a:=(max b a)) (lc:=.i .i64 0) (kr:=[0,1,2,3,4,5,6]) (r:=.one .sl0) (dp (m:=24) rfl) (bf (aj (n:=25) rfl) (by omega)) (aE hf.2 R.length (Nat.le_refl _)) hr ⟨rfl,rfl,rfl,rfl,rfl,rfl,rfl,trivial⟩ (fun _ _=>rfl)) (ae (qW (u:=0) (l:=.own 0 24) (S:=(aB R R.length)) (n:=26) (r:=.one .sl0) (dp (m:=24) rfl) (aE hf.2 R.length (Nat.le_refl _)) rfl) (ae (wH (u:=0) (k:=0) (m:=24) (m':=27) (S:=(aB R R.length)) (a:=b) (c:=28) (r:=.one .sl0) rfl rfl (aj (n:=22) rfl) (aE hf.2 R.length (Nat.le_refl _)) rfl) (ae (eF (u:=0) (l:=.own 0 27) (z:=z) (y:=y) (c:=0) (a:=(max b a)) (lc:=.i .i64 0) (kr:=[0,1,2,3,4,5,6]) (r:=.one .sl0) (dp (m:=27) rfl) (bf (aj (n:=25) rfl) (by omega)) ((aE hf.2 R.length (Nat.le_refl _)).drop _) (jq (a:=b) (aE hf.2 R.length (Nat.le_refl _)) (by omega) hr) ⟨rfl,rfl,rfl,rfl,rfl,rfl,rfl,trivial⟩ (fun _ _=>rfl)) (ae (qW (u:=0) (l:=.own 0 27) (S:=(List.drop (plN (aB R R.length) (b+1) - 1) (aB R R.length))) (n:=29) (r:=.one .sl0) (dp (m:=27) rfl) ((aE hf.2 R.length (Nat.le_refl _)).drop _) rfl) (ae (cE (m:=30) (t:=3) (aj (n:=26) rfl) (aj (n:=28) rfl) rfl rfl (by omega) (by omega)) (ae (aA (t:=3) (aj (n:=29) rfl) (aj (n:=30) rfl) (dS (by omega))) (ae (aA (t:=3) (aj (n:=28) rfl) (aJ (c:=0)) (aU (by omega))) (ai)))))))))))) (by kernel_rfl) Tryz.func6 (by kernel_rfl) aG ⟨bJ (m:=21) rfl hR,⟨aD (n:=22) rfl az,⟨aD (n:=23) rfl az,trivial⟩⟩⟩).mono ?_
 rintro e w' ⟨v,rfl,h1,h2⟩
 exact⟨congrArg Ending.returned h1,h2⟩
noncomputable def mD (R:List RSt) (v:Value) (b a:Int) (z y:St) (c:Int):List Fq:=(atP z y c (max b a)).cs
theorem oZ {w:World} (R:List RSt) (v:Value) (b a:Int) (hR:(Vp.rowW R.length (bc R)).p w v) (hf:cR R 80) (hA:cm R R.length) (z y:St) (c:Int) (hr:Road (aB R R.length) (max b a) z y c) (hc:c≠0):
  Calls Tryz.prog 6 #[v,.int .i64 b,.int .i64 a] w fun e w'=>bm w (.bool true) e w':=by
 have hSl:=(aE hf.2 R.length (Nat.le_refl _)).len
 have hle:=bi (aB R R.length) (b+1)
 have hdl:(List.drop (plN (aB R R.length) (b+1) - 1) (aB R R.length)).length=(aB R R.length).length - (plN (aB R R.length) (b+1) - 1):=List.length_drop ..
 refine(aH (ρ:=frs (mD R v b a z y c)++([.rowW R.length (bc R),.val (.int .i64 b),.val (.int .i64 a),.row stT (aB R R.length).length (aF (aB R R.length)),.val (.int .i64 (max b a)),.val (.int .i64 c),.val (.int .i64 ((aB R R.length).length:Int)),.row stT (List.drop (plN (aB R R.length) (b+1) - 1) (aB R R.length)).length (aF (List.drop (plN (aB R R.length) (b+1) - 1) (aB R R.length))),.val (.int .i64 ((plN (aB R R.length) (b+1) - 1:Nat):Int)),.val (.int .i64 ((List.drop (plN (aB R R.length) (b+1) - 1) (aB R R.length)).length:Int)),.val (.int .i64 (((aB R R.length).length:Int) - ((plN (aB R R.length) (b+1) - 1:Nat):Int)))]:List Vp)) (w:=w) (fuel:=300) (args:=[.one (.ref 21),.one (.ref 22),.one (.ref 23)]) (vs:=[v,.int .i64 b,.int .i64 a]) (r:=.v (.one (.b true))) (lo:=[]) (obs:=[])
  (af (cT (n:=21) (R:=R) (M:=80) (b:=true) rfl (by decide) (by classical exact decide_eq_true hf)) (af (bQ) ah))
  (ae (eH (n:=21) (m:=24) (k:=0) (u:=0) (R:=R) (r:=.one .sl0) rfl rfl hf.2 (Nat.le_trans hf.1 (by decide)) hA) (ae (ba (y:=0) (o:=0) (t:=39) ⟨_,Tryz.underlying39⟩) (ae (o_max (m:=25) (aj (n:=22) rfl) (aj (n:=23) rfl) rfl) (ae (eF (u:=0) (l:=.own 0 24) (z:=z) (y:=y) (c:=c) (a:=(max b a)) (lc:=.ref 26) (kr:=[0,1,2,3,4,5,6]) (r:=.one .sl0) (dp (m:=24) rfl) (bf (aj (n:=25) rfl) (by omega)) (aE hf.2 R.length (Nat.le_refl _)) hr ⟨rfl,rfl,rfl,rfl,rfl,rfl,rfl,trivial⟩ (fun _ _=>aD rfl az)) (ae (qW (u:=0) (l:=.own 0 24) (S:=(aB R R.length)) (n:=27) (r:=.one .sl0) (dp (m:=24) rfl) (aE hf.2 R.length (Nat.le_refl _)) rfl) (ae (wH (u:=0) (k:=0) (m:=24) (m':=28) (S:=(aB R R.length)) (a:=b) (c:=29) (r:=.one .sl0) rfl rfl (aj (n:=22) rfl) (aE hf.2 R.length (Nat.le_refl _)) rfl) (ae (eF (u:=0) (l:=.own 0 28) (z:=z) (y:=y) (c:=c) (a:=(max b a)) (lc:=.ref 26) (kr:=[0,1,2,3,4,5,6]) (r:=.one .sl0) (dp (m:=28) rfl) (bf (aj (n:=25) rfl) (by omega)) ((aE hf.2 R.length (Nat.le_refl _)).drop _) (jq (a:=b) (aE hf.2 R.length (Nat.le_refl _)) (by omega) hr) ⟨rfl,rfl,rfl,rfl,rfl,rfl,rfl,trivial⟩ (fun _ _=>aD rfl az)) (ae (aA (t:=40) (aj (n:=26) rfl) (aj (n:=26) rfl) (dS (by omega))) (ae (qW (u:=0) (l:=.own 0 28) (S:=(List.drop (plN (aB R R.length) (b+1) - 1) (aB R R.length))) (n:=30) (r:=.one .sl0) (dp (m:=28) rfl) ((aE hf.2 R.length (Nat.le_refl _)).drop _) rfl) (ae (cE (m:=31) (t:=3) (aj (n:=27) rfl) (aj (n:=29) rfl) rfl rfl (by omega) (by omega)) (ae (aA (t:=3) (aj (n:=30) rfl) (aj (n:=31) rfl) (dS (by omega))) (ae (aA (t:=3) (aj (n:=29) rfl) (aJ (c:=0)) (aU (by omega))) (ae (aA (t:=40) (aj (n:=26) rfl) (aJ (c:=0)) (fA (by omega))) (ai)))))))))))))) (by kernel_rfl) Tryz.func6 (by kernel_rfl) aG ⟨bJ (m:=21) rfl hR,⟨aD (n:=22) rfl az,⟨aD (n:=23) rfl az,trivial⟩⟩⟩).mono ?_
 rintro e w' ⟨v,rfl,h1,h2⟩
 exact⟨congrArg Ending.returned h1,h2⟩
theorem qY (v:Value) (R:List RSt) (b a:Int) (w:World) (hR:(Vp.rowW R.length (bc R)).p w v) (wb:(Lit.int .i64 b).wf=true) (wa:(Lit.int .i64 a).wf=true):Calls Tryz.prog 6 #[v,.int .i64 b,.int .i64 a] w fun e w'=>bm w (.bool true) e w':=by
 by_cases hf:cR R 80
 ·rcases qS R with hA | ⟨j,x,hx,hA,hc⟩
  ·obtain⟨z,y,c,hr⟩:=road (aE hf.2 R.length (Nat.le_refl _)) (max b a)
   by_cases hc:c=0
   ·subst hc;exact oY R v b a hR hf hA z y hr
   ·exact oZ R v b a hR hf hA z y c hr hc
  ·exact oX R v b a hR hf j x hx hA hc
 ·exact oW R v b a hR hf
end Go.Proofs.YtfhinmdhjlmikaaGreat
