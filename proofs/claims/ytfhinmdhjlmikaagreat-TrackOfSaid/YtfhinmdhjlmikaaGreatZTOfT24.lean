/- The law what Of makes of a list. -/
import Derived.Test.YtfhinmdhjlmikaaGreatP23
namespace Go.Proofs.YtfhinmdhjlmikaaGreat
set_option linter.unusedSimpArgs false
set_option linter.unusedVariables false
set_option maxRecDepth 100000
open Go.RowKit
def tb (R:List RSt) (v:Value):List Fq:=[]
theorem yi {w:World} (R:List RSt) (v:Value) (hR:(Vp.rowW R.length (bT R)).p w v) (hf:¬mD R 80):
  Calls Tryz.prog 4 #[v] w fun e w'=>bH w (.bool true) e w':=by
 refine(aX (ρ:=frs (tb R v)++([.rowW R.length (bT R)]:List Vp)) (w:=w) (fuel:=300) (args:=[.one (.ref 0)]) (vs:=[v]) (r:=.v (.one (.b true))) (lo:=[]) (obs:=[])
  (af (ye (n:=0) (R:=R) (M:=80) (b:=false) rfl (by decide) (by classical exact decide_eq_false hf)) (af (gF) ai))
  aj (by kernel_rfl) Tryz.func4 (by kernel_rfl) aD ⟨dc (m:=0) rfl hR,trivial⟩).mono ?_
 rintro e w' ⟨v,rfl,h1,h2⟩
 exact⟨congrArg Ending.returned h1,h2⟩
def tc (R:List RSt) (v:Value):List Fq:=[]
theorem yj {w:World} (R:List RSt) (v:Value) (hR:(Vp.rowW R.length (bT R)).p w v) (hf:mD R 80) (hA:eO R R.length):
  Calls Tryz.prog 4 #[v] w fun e w'=>bH w (.bool true) e w':=by
 refine(aX (ρ:=frs (tc R v)++([.rowW R.length (bT R),.row stT (aU R R.length).length (az (aU R R.length)),.ownr stT 22 (aU R R.length).length (az (aU R R.length))]:List Vp)) (w:=w) (fuel:=300) (args:=[.one (.ref 0)]) (vs:=[v]) (r:=.v (.one (.b true))) (lo:=[]) (obs:=[])
  (af (ye (n:=0) (R:=R) (M:=80) (b:=true) rfl (by decide) (by classical exact decide_eq_true hf)) (af (I_Same (j:=2) (n:=2) (j':=3) (n':=2) (S:=(aU R R.length)) rfl rfl (df hf.2 R.length (Nat.le_refl _))) (af (gF) ai)))
  (ae (I_tOf0 (n:=0) (m:=1) (k:=0) (u:=0) (R:=R) (r:=.one .sl0) rfl rfl hf.2 (Nat.le_trans hf.1 (by decide)) hA) (ae (I_rtOf0 (n:=0) (m:=1) (k:=1) (u:=1) (R:=R) (r:=.one .sl0) rfl rfl hf.2 (Nat.le_trans hf.1 (by decide)) hA) (ae (o_nePN (y:=0) (o:=0) (t:=39) ⟨_,Tryz.underlying39⟩) (ae (zj (u:=0) (k:=0) (j:=2) (m:=1) (m':=2) (S:=(aU R R.length)) (r:=.one .sl0) rfl rfl (df hf.2 R.length (Nat.le_refl _))) (ae (vl (u:=1) (k:=1) (j:=3) (m:=1) (m':=2) (S:=(aU R R.length)) (r:=.one .sl0) rfl rfl (df hf.2 R.length (Nat.le_refl _))) (aj)))))) (by kernel_rfl) Tryz.func4 (by kernel_rfl) aD ⟨dc (m:=0) rfl hR,trivial⟩).mono ?_
 rintro e w' ⟨v,rfl,h1,h2⟩
 exact⟨congrArg Ending.returned h1,h2⟩
def td (R:List RSt) (v:Value) (j:Nat) (x:RSt):List Fq:=[]
theorem yk {w:World} (R:List RSt) (v:Value) (hR:(Vp.rowW R.length (bT R)).p w v) (hf:mD R 80) (j:Nat) (x:RSt) (hx:R[j]? =some x) (hA:eO R j) (hc:(bZ (aU R j) x).2≠0):
  Calls Tryz.prog 4 #[v] w fun e w'=>bH w (.bool true) e w':=by
 refine(aX (ρ:=frs (td R v j x)++([.rowW R.length (bT R),.val (.int .i64 ((bZ (aU R j) x).2))]:List Vp)) (w:=w) (fuel:=300) (args:=[.one (.ref 0)]) (vs:=[v]) (r:=.v (.one (.b true))) (lo:=[]) (obs:=[])
  (af (ye (n:=0) (R:=R) (M:=80) (b:=true) rfl (by decide) (by classical exact decide_eq_true hf)) (af (I_tOf1 (n:=0) (c:=1) (R:=R) (j:=j) (x:=x) rfl rfl hf.2 (Nat.le_trans hf.1 (by decide)) hx hA hc) (af (I_rtOf1 (n:=0) (c:=1) (R:=R) (j:=j) (x:=x) rfl rfl hf.2 (Nat.le_trans hf.1 (by decide)) hx hA hc) (af (gF) ai))))
  (ae (aw (t:=40) (ah (n:=1) rfl) (ah (n:=1) rfl) (cc (by omega))) (ae (o_neNN (t:=39) ⟨_,Tryz.underlying39⟩) (ae (aw (t:=40) (ah (n:=1) rfl) (aG (c:=0)) (bc (by omega))) (ae (aw (t:=40) (ah (n:=1) rfl) (aG (c:=0)) (pN (by omega))) (aj))))) (by kernel_rfl) Tryz.func4 (by kernel_rfl) aD ⟨dc (m:=0) rfl hR,trivial⟩).mono ?_
 rintro e w' ⟨v,rfl,h1,h2⟩
 exact⟨congrArg Ending.returned h1,h2⟩
theorem aaX (v:Value) (R:List RSt) (w:World) (hR:(Vp.rowW R.length (bT R)).p w v):Calls Tryz.prog 4 #[v] w fun e w'=>bH w (.bool true) e w':=by
 by_cases hf:mD R 80
 ·rcases adds_or R with hA | ⟨j,x,hx,hA,hc⟩
  ·exact yj R v hR hf hA
  ·exact yk R v hR hf j x hx hA hc
 ·exact yi R v hR hf
end Go.Proofs.YtfhinmdhjlmikaaGreat
