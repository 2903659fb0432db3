/- Tracks: Add at a stamp with a valid pose. Rows of fractions as they come in. -/
import Derived.Test.YtfhinmdhjlmikaaGreatP15
namespace Go.Proofs.YtfhinmdhjlmikaaGreat
set_option linter.unusedSimpArgs false
set_option linter.unusedVariables false
set_option maxRecDepth 100000
open Go.RowKit
/-- No stamp. -/
def zst:St:=⟨0,Pq.zero⟩
def dy (s y z:St):List Fq:=[s.pose.rot.w,s.pose.rot.x,s.pose.rot.y,s.pose.rot.z,s.pose.pos.x,s.pose.pos.y,s.pose.pos.z,y.pose.rot.w,y.pose.rot.x,y.pose.rot.y,y.pose.rot.z,y.pose.pos.x,y.pose.pos.y,y.pose.pos.z,z.pose.rot.w,z.pose.rot.x,z.pose.rot.y,z.pose.rot.z,z.pose.pos.x,z.pose.pos.y,z.pose.pos.z]
/-- A list with a stamp more. -/
def aJ (S:List St) (i:Nat) (s:St):List St:=S.take i++s::S.drop i
theorem bi {S:List St} {i:Nat} {s:St} (h:i≤S.length):(aJ S i s).length=S.length+1:=by
 simp only[aJ,List.length_append,List.length_take,List.length_cons,List.length_drop];omega
theorem q_place (S:List St) (a:Int) {w:World} {g:Nat} {sl:Value} (h:TrkS 79 w g sl S) (hS:S.length≤1000):
  Calls Tryz.prog 45 (.pointer (some ⟨g,0,none⟩)::[.int .i64 a]).toArray w fun e w'=>e= .returned (.int .i64 ((plN S a:Nat):Int))∧Below w.heap.size w w':=by
 by_cases hp:plN S a<S.length
 ·obtain⟨x,hx,hlt⟩:=rM hp
  exact q_placeM S a h hS hx hlt hp
 ·exact q_placeE S a h hS (by have:=a9 S a;omega)
section
variable {ρ:Rho} {n m k r j u i:Nat} {a:Int} {S S':List St} {l la il:Leaf} {sl0:Value} {pin:Bool} {s:St} {xn:Nat}
theorem cJ {r:SV} (hm:ρ[m]? =some (.rowB pin sl0 stT S.length (az S))) (ha:KI ρ la .i64 a) (hn:ρ[n]? =some (.val (.int .i64 ((plN S a:Nat):Int)))) (hS:S.length≤1000):(OIns.mk (.mut 45 ⟨[],[(u,79,[.ref m])],[],none,[],[.one (.ref n)]⟩) [.one (.ptr u 0),.one la] r).Ok Tryz.prog ρ:=
 zA (args:=[.one la]) (aA Tryz.func45 rfl rfl) hm (fun B w g sl vs _ ht hv=>by
  match vs,hv with
  | [v],hv=>
   have e:=ha _ _ _ hv.1
   subst e
   refine(q_place S a ht hS).mono ?_
   rintro e w' ⟨rfl,h2⟩
   exact⟨_,rfl,fun B' _=>aH hn aE,h2⟩)
theorem ee {r:SV} (hn:ρ[n]? =some (.ownr stT 22 S.length (az S))) (hx:ρ[xn]? =some (.row stT 1 s.qs)) (hi:KI ρ il .i64 (i:Int)) (hm:ρ[m]? =some (.ownr stT 22 (aJ S i s).length (az (aJ S i s)))) (hle:i≤S.length) (hS:S.length≤1000000):
  (OIns.mk (.mut 48 ⟨[k],[],[],none,[],[.one (.own k m)]⟩) [.one (.own k n),.one il,.one (.ref xn)] r).Ok Tryz.prog ρ:=
 zz hn hx hi (by rw[hm,bi hle];rfl) hle hS
end
theorem q_addLo {w:World} {g:Nat} {sl:Value} (S:List St) (s:St) (v:Value) (h:TrkS 79 w g sl S) (i:ce w v s) (hs:s.pose.ok 2) (gs:s.pose.good) (hS:S.length≤64) (r0:s.tm<0):
  Calls Tryz.prog 14 (.pointer (some ⟨g,0,none⟩)::[v]).toArray w fun e w'=>e= .returned (.int .i64 4)∧TrkM 79 w g sl S w':=by
 have hle:=a9 S s.tm
 have hin:=bi (s:=s) hle
 have hdr:((aJ S (plN S s.tm) s).drop 1).length=(aJ S (plN S s.tm) s).length - 1:=List.length_drop ..
 have ht1:(S.take (plN S s.tm)).length=plN S s.tm:=by rw[List.length_take];omega
 have ht2:(S.take (plN S s.tm)++ [s]).length=plN S s.tm+1:=by rw[List.length_append,ht1];rfl
 refine(aG (ρ:=frs (dy s zst zst)++([.rowB true sl stT S.length (az S),.val (.int .i64 s.tm)]:List Vp)) (w:=w) (fuel:=300) (m:=63) (S':=S) (args:=[.one (.ptr 0 0),.agg (.ref 64::bd [0,1,2,3,4,5,6])]) (vs:=[.pointer (some ⟨g,0,none⟩),v]) (r:=.v (.one (.i .i64 4))) (l:=.ref 63) (lo:=[]) (obs:=[]) h
  (ai)
  (ae (bK (y:=0) (o:=0) (t:=39) ⟨_,Tryz.underlying39⟩) (ae (aw (t:=3) (ah (n:=64) rfl) (aF (c:=0)) (aL (by omega))) (aj))) Tryz.func14 rfl (by kernel_rfl) aC ⟨bE,⟨(bc (n:=64) (ks:=[0,1,2,3,4,5,6]) (s:=s) rfl ⟨rfl,rfl,rfl,rfl,rfl,rfl,rfl,trivial⟩).2 i,trivial⟩⟩ (cf rfl)).mono ?_
 rintro e w' ⟨v,B',rfl,h1,h2,h3⟩
 have e1:v= .int .i64 4:=h1
 subst e1
 exact⟨rfl,h2⟩
theorem q_addHi {w:World} {g:Nat} {sl:Value} (S:List St) (s:St) (v:Value) (h:TrkS 79 w g sl S) (i:ce w v s) (hs:s.pose.ok 2) (gs:s.pose.good) (hS:S.length≤64) (r0:1099511627776<s.tm):
  Calls Tryz.prog 14 (.pointer (some ⟨g,0,none⟩)::[v]).toArray w fun e w'=>e= .returned (.int .i64 4)∧TrkM 79 w g sl S w':=by
 have hle:=a9 S s.tm
 have hin:=bi (s:=s) hle
 have hdr:((aJ S (plN S s.tm) s).drop 1).length=(aJ S (plN S s.tm) s).length - 1:=List.length_drop ..
 have ht1:(S.take (plN S s.tm)).length=plN S s.tm:=by rw[List.length_take];omega
 have ht2:(S.take (plN S s.tm)++ [s]).length=plN S s.tm+1:=by rw[List.length_append,ht1];rfl
 refine(aG (ρ:=frs (dy s zst zst)++([.rowB true sl stT S.length (az S),.val (.int .i64 s.tm)]:List Vp)) (w:=w) (fuel:=300) (m:=63) (S':=S) (args:=[.one (.ptr 0 0),.agg (.ref 64::bd [0,1,2,3,4,5,6])]) (vs:=[.pointer (some ⟨g,0,none⟩),v]) (r:=.v (.one (.i .i64 4))) (l:=.ref 63) (lo:=[]) (obs:=[]) h
  (ai)
  (ae (bK (y:=0) (o:=0) (t:=39) ⟨_,Tryz.underlying39⟩) (ae (aw (t:=3) (ah (n:=64) rfl) (aF (c:=0)) (aK (by omega))) (ae (aw (t:=3) (ah (n:=64) rfl) (aF (c:=1099511627776)) (bm (by omega))) (aj)))) Tryz.func14 rfl (by kernel_rfl) aC ⟨bE,⟨(bc (n:=64) (ks:=[0,1,2,3,4,5,6]) (s:=s) rfl ⟨rfl,rfl,rfl,rfl,rfl,rfl,rfl,trivial⟩).2 i,trivial⟩⟩ (cf rfl)).mono ?_
 rintro e w' ⟨v,B',rfl,h1,h2,h3⟩
 have e1:v= .int .i64 4:=h1
 subst e1
 exact⟨rfl,h2⟩
theorem zB {w:World} {g:Nat} {sl:Value} (S:List St) (s:St) (v:Value) (h:TrkS 79 w g sl S) (i:ce w v s) (hs:s.pose.ok 2) (gs:s.pose.good) (hS:S.length≤64) (r0:0≤s.tm) (r1:s.tm≤1099511627776) (hq:plN S s.tm<S.length) (y:St) (hy:S[plN S s.tm]? =some y) (ky:y.pose.ok 2) (gy:y.pose.good) (ey:y.tm=s.tm) (ep:y.pose=s.pose):
  Calls Tryz.prog 14 (.pointer (some ⟨g,0,none⟩)::[v]).toArray w fun e w'=>e= .returned (.int .i64 0)∧TrkM 79 w g sl S w':=by
 have hle:=a9 S s.tm
 have hin:=bi (s:=s) hle
 have hdr:((aJ S (plN S s.tm) s).drop 1).length=(aJ S (plN S s.tm) s).length - 1:=List.length_drop ..
 have ht1:(S.take (plN S s.tm)).length=plN S s.tm:=by rw[List.length_take];omega
 have ht2:(S.take (plN S s.tm)++ [s]).length=plN S s.tm+1:=by rw[List.length_append,ht1];rfl
 refine(aG (ρ:=frs (dy s y zst)++([.rowB true sl stT S.length (az S),.val (.int .i64 s.tm),.val (.int .i64 ((plN S s.tm:Nat):Int)),.val (.int .i64 (S.length:Int)),.plc stT y.qs,.val (.int .i64 y.tm),.plc stT (frs y.pose.cs)]:List Vp)) (w:=w) (fuel:=300) (m:=63) (S':=S) (args:=[.one (.ptr 0 0),.agg (.ref 64::bd [0,1,2,3,4,5,6])]) (vs:=[.pointer (some ⟨g,0,none⟩),v]) (r:=.v (.one (.i .i64 0))) (l:=.ref 63) (lo:=[]) (obs:=[]) h
  (af (cN (ka:=[0,1,2,3,4,5,6]) (a:=s.pose) ⟨rfl,rfl,rfl,rfl,rfl,rfl,rfl,trivial⟩ (hs.mono (by decide)) gs) (af (vP (ka:=[7,8,9,10,11,12,13]) (a:=y.pose) (kb:=[0,1,2,3,4,5,6]) (b:=s.pose) ⟨rfl,rfl,rfl,rfl,rfl,rfl,rfl,trivial⟩ ⟨rfl,rfl,rfl,rfl,rfl,rfl,rfl,trivial⟩ (ky.mono (by decide)) (hs.mono (by decide)) ep gy gs) ai))
  (ae (bK (y:=0) (o:=0) (t:=39) ⟨_,Tryz.underlying39⟩) (ae (aw (t:=3) (ah (n:=64) rfl) (aF (c:=0)) (aK (by omega))) (ae (aw (t:=3) (ah (n:=64) rfl) (aF (c:=1099511627776)) (aQ (by omega))) (ae (cJ (u:=0) (m:=63) (S:=S) (a:=s.tm) (n:=65) (r:=.one .sl0) rfl (ah (n:=64) rfl) rfl (by omega)) (ae (bW 63 66 rfl rfl) (ae (aw (t:=3) (ah (n:=65) rfl) (ah (n:=66) rfl) (aL (by omega))) (ae (iaB (n:=63) (m:=67) rfl rfl (aU (ah (n:=65) rfl) (by omega)) hy) (ae (fa0 y 67 rfl) (ae (ldt y 67 68 rfl rfl) (ae (aw (t:=3) (ah (n:=68) rfl) (ah (n:=64) rfl) (cF (by omega))) (ae (fa1 y 67 69 rfl rfl) (ae (ldp y 69 [7,8,9,10,11,12,13] rfl ⟨rfl,rfl,rfl,rfl,rfl,rfl,rfl,trivial⟩) (aj))))))))))))) Tryz.func14 rfl (by kernel_rfl) aC ⟨bE,⟨(bc (n:=64) (ks:=[0,1,2,3,4,5,6]) (s:=s) rfl ⟨rfl,rfl,rfl,rfl,rfl,rfl,rfl,trivial⟩).2 i,trivial⟩⟩ (cf rfl)).mono ?_
 rintro e w' ⟨v,B',rfl,h1,h2,h3⟩
 have e1:v= .int .i64 0:=h1
 subst e1
 exact⟨rfl,h2⟩
theorem q_addBad {w:World} {g:Nat} {sl:Value} (S:List St) (s:St) (v:Value) (h:TrkS 79 w g sl S) (i:ce w v s) (hs:s.pose.ok 2) (gs:s.pose.good) (hS:S.length≤64) (r0:0≤s.tm) (r1:s.tm≤1099511627776) (hq:plN S s.tm<S.length) (y:St) (hy:S[plN S s.tm]? =some y) (ky:y.pose.ok 2) (gy:y.pose.good) (ey:y.tm=s.tm) (ep:y.pose≠s.pose):
  Calls Tryz.prog 14 (.pointer (some ⟨g,0,none⟩)::[v]).toArray w fun e w'=>e= .returned (.int .i64 7)∧TrkM 79 w g sl S w':=by
 have hle:=a9 S s.tm
 have hin:=bi (s:=s) hle
 have hdr:((aJ S (plN S s.tm) s).drop 1).length=(aJ S (plN S s.tm) s).length - 1:=List.length_drop ..
 have ht1:(S.take (plN S s.tm)).length=plN S s.tm:=by rw[List.length_take];omega
 have ht2:(S.take (plN S s.tm)++ [s]).length=plN S s.tm+1:=by rw[List.length_append,ht1];rfl
 refine(aG (ρ:=frs (dy s y zst)++([.rowB true sl stT S.length (az S),.val (.int .i64 s.tm),.val (.int .i64 ((plN S s.tm:Nat):Int)),.val (.int .i64 (S.length:Int)),.plc stT y.qs,.val (.int .i64 y.tm),.plc stT (frs y.pose.cs)]:List Vp)) (w:=w) (fuel:=300) (m:=63) (S':=S) (args:=[.one (.ptr 0 0),.agg (.ref 64::bd [0,1,2,3,4,5,6])]) (vs:=[.pointer (some ⟨g,0,none⟩),v]) (r:=.v (.one (.i .i64 7))) (l:=.ref 63) (lo:=[]) (obs:=[]) h
  (af (cN (ka:=[0,1,2,3,4,5,6]) (a:=s.pose) ⟨rfl,rfl,rfl,rfl,rfl,rfl,rfl,trivial⟩ (hs.mono (by decide)) gs) (af (vR (ka:=[7,8,9,10,11,12,13]) (a:=y.pose) (kb:=[0,1,2,3,4,5,6]) (b:=s.pose) ⟨rfl,rfl,rfl,rfl,rfl,rfl,rfl,trivial⟩ ⟨rfl,rfl,rfl,rfl,rfl,rfl,rfl,trivial⟩ (ky.mono (by decide)) (hs.mono (by decide)) ep gy gs) ai))
  (ae (bK (y:=0) (o:=0) (t:=39) ⟨_,Tryz.underlying39⟩) (ae (aw (t:=3) (ah (n:=64) rfl) (aF (c:=0)) (aK (by omega))) (ae (aw (t:=3) (ah (n:=64) rfl) (aF (c:=1099511627776)) (aQ (by omega))) (ae (cJ (u:=0) (m:=63) (S:=S) (a:=s.tm) (n:=65) (r:=.one .sl0) rfl (ah (n:=64) rfl) rfl (by omega)) (ae (bW 63 66 rfl rfl) (ae (aw (t:=3) (ah (n:=65) rfl) (ah (n:=66) rfl) (aL (by omega))) (ae (iaB (n:=63) (m:=67) rfl rfl (aU (ah (n:=65) rfl) (by omega)) hy) (ae (fa0 y 67 rfl) (ae (ldt y 67 68 rfl rfl) (ae (aw (t:=3) (ah (n:=68) rfl) (ah (n:=64) rfl) (cF (by omega))) (ae (fa1 y 67 69 rfl rfl) (ae (ldp y 69 [7,8,9,10,11,12,13] rfl ⟨rfl,rfl,rfl,rfl,rfl,rfl,rfl,trivial⟩) (aj))))))))))))) Tryz.func14 rfl (by kernel_rfl) aC ⟨bE,⟨(bc (n:=64) (ks:=[0,1,2,3,4,5,6]) (s:=s) rfl ⟨rfl,rfl,rfl,rfl,rfl,rfl,rfl,trivial⟩).2 i,trivial⟩⟩ (cf rfl)).mono ?_
 rintro e w' ⟨v,B',rfl,h1,h2,h3⟩
 have e1:v= .int .i64 7:=h1
 subst e1
 exact⟨rfl,h2⟩
theorem q_addB0 {w:World} {g:Nat} {sl:Value} (S:List St) (s:St) (v:Value) (h:TrkS 79 w g sl S) (i:ce w v s) (hs:s.pose.ok 2) (gs:s.pose.good) (hS:S.length≤64) (r0:0≤s.tm) (r1:s.tm≤1099511627776) (hq:plN S s.tm<S.length) (hp:plN S s.tm=0) (y:St) (hy:S[plN S s.tm]? =some y) (ky:y.pose.ok 2) (gy:y.pose.good) (ey:y.tm≠s.tm) (ho:¬y.tm<s.tm) (oy:opp s.pose y.pose):
  Calls Tryz.prog 14 (.pointer (some ⟨g,0,none⟩)::[v]).toArray w fun e w'=>e= .returned (.int .i64 21)∧TrkM 79 w g sl S w':=by
 have hle:=a9 S s.tm
 have hin:=bi (s:=s) hle
 have hdr:((aJ S (plN S s.tm) s).drop 1).length=(aJ S (plN S s.tm) s).length - 1:=List.length_drop ..
 have ht1:(S.take (plN S s.tm)).length=plN S s.tm:=by rw[List.length_take];omega
 have ht2:(S.take (plN S s.tm)++ [s]).length=plN S s.tm+1:=by rw[List.length_append,ht1];rfl
 refine(aG (ρ:=frs (dy s y zst)++([.rowB true sl stT S.length (az S),.val (.int .i64 s.tm),.val (.int .i64 ((plN S s.tm:Nat):Int)),.val (.int .i64 (S.length:Int)),.plc stT y.qs,.val (.int .i64 y.tm),.plc stT (frs y.pose.cs)]:List Vp)) (w:=w) (fuel:=300) (m:=63) (S':=S) (args:=[.one (.ptr 0 0),.agg (.ref 64::bd [0,1,2,3,4,5,6])]) (vs:=[.pointer (some ⟨g,0,none⟩),v]) (r:=.v (.one (.i .i64 21))) (l:=.ref 63) (lo:=[]) (obs:=[]) h
  (af (cN (ka:=[0,1,2,3,4,5,6]) (a:=s.pose) ⟨rfl,rfl,rfl,rfl,rfl,rfl,rfl,trivial⟩ (hs.mono (by decide)) gs) (af (yd (ka:=[0,1,2,3,4,5,6]) (a:=s.pose) (kb:=[7,8,9,10,11,12,13]) (b:=y.pose) ⟨rfl,rfl,rfl,rfl,rfl,rfl,rfl,trivial⟩ ⟨rfl,rfl,rfl,rfl,rfl,rfl,rfl,trivial⟩ (hs.mono (by decide)) (ky.mono (by decide)) gs gy oy) ai))
  (ae (bK (y:=0) (o:=0) (t:=39) ⟨_,Tryz.underlying39⟩) (ae (aw (t:=3) (ah (n:=64) rfl) (aF (c:=0)) (aK (by omega))) (ae (aw (t:=3) (ah (n:=64) rfl) (aF (c:=1099511627776)) (aQ (by omega))) (ae (cJ (u:=0) (m:=63) (S:=S) (a:=s.tm) (n:=65) (r:=.one .sl0) rfl (ah (n:=64) rfl) rfl (by omega)) (ae (bW 63 66 rfl rfl) (ae (aw (t:=3) (ah (n:=65) rfl) (ah (n:=66) rfl) (aL (by omega))) (ae (iaB (n:=63) (m:=67) rfl rfl (aU (ah (n:=65) rfl) (by omega)) hy) (ae (fa0 y 67 rfl) (ae (ldt y 67 68 rfl rfl) (ae (aw (t:=3) (ah (n:=68) rfl) (ah (n:=64) rfl) (a8 (by omega))) (ae (aw (t:=3) (ah (n:=65) rfl) (aF (c:=0)) (aQ (by omega))) (ae (fa1 y 67 69 rfl rfl) (ae (ldp y 69 [7,8,9,10,11,12,13] rfl ⟨rfl,rfl,rfl,rfl,rfl,rfl,rfl,trivial⟩) (aj)))))))))))))) Tryz.func14 rfl (by kernel_rfl) aC ⟨bE,⟨(bc (n:=64) (ks:=[0,1,2,3,4,5,6]) (s:=s) rfl ⟨rfl,rfl,rfl,rfl,rfl,rfl,rfl,trivial⟩).2 i,trivial⟩⟩ (cf rfl)).mono ?_
 rintro e w' ⟨v,B',rfl,h1,h2,h3⟩
 have e1:v= .int .i64 21:=h1
 subst e1
 exact⟨rfl,h2⟩
theorem q_addBE {w:World} {g:Nat} {sl:Value} (S:List St) (s:St) (v:Value) (h:TrkS 79 w g sl S) (i:ce w v s) (hs:s.pose.ok 2) (gs:s.pose.good) (hS:S.length≤64) (r0:0≤s.tm) (r1:s.tm≤1099511627776) (hq:plN S s.tm=S.length) (z:St) (hz:S[plN S s.tm - 1]? =some z) (kz:z.pose.ok 2) (gz:z.pose.good) (hp:0<plN S s.tm) (oz:opp z.pose s.pose):
  Calls Tryz.prog 14 (.pointer (some ⟨g,0,none⟩)::[v]).toArray w fun e w'=>e= .returned (.int .i64 21)∧TrkM 79 w g sl S w':=by
 have hle:=a9 S s.tm
 have hin:=bi (s:=s) hle
 have hdr:((aJ S (plN S s.tm) s).drop 1).length=(aJ S (plN S s.tm) s).length - 1:=List.length_drop ..
 have ht1:(S.take (plN S s.tm)).length=plN S s.tm:=by rw[List.length_take];omega
 have ht2:(S.take (plN S s.tm)++ [s]).length=plN S s.tm+1:=by rw[List.length_append,ht1];rfl
 refine(aG (ρ:=frs (dy s zst z)++([.rowB true sl stT S.length (az S),.val (.int .i64 s.tm),.val (.int .i64 ((plN S s.tm:Nat):Int)),.val (.int .i64 (S.length:Int)),.val (.int .i64 (((plN S s.tm:Nat):Int) - 1)),.plc stT z.qs,.plc stT (frs z.pose.cs)]:List Vp)) (w:=w) (fuel:=300) (m:=63) (S':=S) (args:=[.one (.ptr 0 0),.agg (.ref 64::bd [0,1,2,3,4,5,6])]) (vs:=[.pointer (some ⟨g,0,none⟩),v]) (r:=.v (.one (.i .i64 21))) (l:=.ref 63) (lo:=[]) (obs:=[]) h
  (af (cN (ka:=[0,1,2,3,4,5,6]) (a:=s.pose) ⟨rfl,rfl,rfl,rfl,rfl,rfl,rfl,trivial⟩ (hs.mono (by decide)) gs) (af (yd (ka:=[14,15,16,17,18,19,20]) (a:=z.pose) (kb:=[0,1,2,3,4,5,6]) (b:=s.pose) ⟨rfl,rfl,rfl,rfl,rfl,rfl,rfl,trivial⟩ ⟨rfl,rfl,rfl,rfl,rfl,rfl,rfl,trivial⟩ (kz.mono (by decide)) (hs.mono (by decide)) gz gs oz) ai))
  (ae (bK (y:=0) (o:=0) (t:=39) ⟨_,Tryz.underlying39⟩) (ae (aw (t:=3) (ah (n:=64) rfl) (aF (c:=0)) (aK (by omega))) (ae (aw (t:=3) (ah (n:=64) rfl) (aF (c:=1099511627776)) (aQ (by omega))) (ae (cJ (u:=0) (m:=63) (S:=S) (a:=s.tm) (n:=65) (r:=.one .sl0) rfl (ah (n:=64) rfl) rfl (by omega)) (ae (bW 63 66 rfl rfl) (ae (aw (t:=3) (ah (n:=65) rfl) (ah (n:=66) rfl) (aK (by omega))) (ae (aw (t:=3) (ah (n:=65) rfl) (aF (c:=0)) (bm (by omega))) (ae (bQ (m:=67) (t:=3) (ah (n:=65) rfl) (aF (c:=1)) rfl rfl (by omega) (by omega)) (ae (iaB (n:=63) (m:=68) rfl rfl (aU (ah (n:=67) rfl) (by omega)) hz) (ae (fa1 z 68 69 rfl rfl) (ae (ldp z 69 [14,15,16,17,18,19,20] rfl ⟨rfl,rfl,rfl,rfl,rfl,rfl,rfl,trivial⟩) (aj)))))))))))) Tryz.func14 rfl (by kernel_rfl) aC ⟨bE,⟨(bc (n:=64) (ks:=[0,1,2,3,4,5,6]) (s:=s) rfl ⟨rfl,rfl,rfl,rfl,rfl,rfl,rfl,trivial⟩).2 i,trivial⟩⟩ (cf rfl)).mono ?_
 rintro e w' ⟨v,B',rfl,h1,h2,h3⟩
 have e1:v= .int .i64 21:=h1
 subst e1
 exact⟨rfl,h2⟩
theorem q_addBM {w:World} {g:Nat} {sl:Value} (S:List St) (s:St) (v:Value) (h:TrkS 79 w g sl S) (i:ce w v s) (hs:s.pose.ok 2) (gs:s.pose.good) (hS:S.length≤64) (r0:0≤s.tm) (r1:s.tm≤1099511627776) (hq:plN S s.tm<S.length) (y:St) (hy:S[plN S s.tm]? =some y) (ky:y.pose.ok 2) (gy:y.pose.good) (ey:y.tm≠s.tm) (ho:¬y.tm<s.tm) (z:St) (hz:S[plN S s.tm - 1]? =some z) (kz:z.pose.ok 2) (gz:z.pose.good) (hp:0<plN S s.tm) (oz:opp z.pose s.pose):
  Calls Tryz.prog 14 (.pointer (some ⟨g,0,none⟩)::[v]).toArray w fun e w'=>e= .returned (.int .i64 21)∧TrkM 79 w g sl S w':=by
 have hle:=a9 S s.tm
 have hin:=bi (s:=s) hle
 have hdr:((aJ S (plN S s.tm) s).drop 1).length=(aJ S (plN S s.tm) s).length - 1:=List.length_drop ..
 have ht1:(S.take (plN S s.tm)).length=plN S s.tm:=by rw[List.length_take];omega
 have ht2:(S.take (plN S s.tm)++ [s]).length=plN S s.tm+1:=by rw[List.length_append,ht1];rfl
 refine(aG (ρ:=frs (dy s y z)++([.rowB true sl stT S.length (az S),.val (.int .i64 s.tm),.val (.int .i64 ((plN S s.tm:Nat):Int)),.val (.int .i64 (S.length:Int)),.plc stT y.qs,.val (.int .i64 y.tm),.val (.int .i64 (((plN S s.tm:Nat):Int) - 1)),.plc stT z.qs,.plc stT (frs z.pose.cs)]:List Vp)) (w:=w) (fuel:=300) (m:=63) (S':=S) (args:=[.one (.ptr 0 0),.agg (.ref 64::bd [0,1,2,3,4,5,6])]) (vs:=[.pointer (some ⟨g,0,none⟩),v]) (r:=.v (.one (.i .i64 21))) (l:=.ref 63) (lo:=[]) (obs:=[]) h
  (af (cN (ka:=[0,1,2,3,4,5,6]) (a:=s.pose) ⟨rfl,rfl,rfl,rfl,rfl,rfl,rfl,trivial⟩ (hs.mono (by decide)) gs) (af (yd (ka:=[14,15,16,17,18,19,20]) (a:=z.pose) (kb:=[0,1,2,3,4,5,6]) (b:=s.pose) ⟨rfl,rfl,rfl,rfl,rfl,rfl,rfl,trivial⟩ ⟨rfl,rfl,rfl,rfl,rfl,rfl,rfl,trivial⟩ (kz.mono (by decide)) (hs.mono (by decide)) gz gs oz) ai))
  (ae (bK (y:=0) (o:=0) (t:=39) ⟨_,Tryz.underlying39⟩) (ae (aw (t:=3) (ah (n:=64) rfl) (aF (c:=0)) (aK (by omega))) (ae (aw (t:=3) (ah (n:=64) rfl) (aF (c:=1099511627776)) (aQ (by omega))) (ae (cJ (u:=0) (m:=63) (S:=S) (a:=s.tm) (n:=65) (r:=.one .sl0) rfl (ah (n:=64) rfl) rfl (by omega)) (ae (bW 63 66 rfl rfl) (ae (aw (t:=3) (ah (n:=65) rfl) (ah (n:=66) rfl) (aL (by omega))) (ae (iaB (n:=63) (m:=67) rfl rfl (aU (ah (n:=65) rfl) (by omega)) hy) (ae (fa0 y 67 rfl) (ae (ldt y 67 68 rfl rfl) (ae (aw (t:=3) (ah (n:=68) rfl) (ah (n:=64) rfl) (a8 (by omega))) (ae (aw (t:=3) (ah (n:=65) rfl) (aF (c:=0)) (bm (by omega))) (ae (bQ (m:=69) (t:=3) (ah (n:=65) rfl) (aF (c:=1)) rfl rfl (by omega) (by omega)) (ae (iaB (n:=63) (m:=70) rfl rfl (aU (ah (n:=69) rfl) (by omega)) hz) (ae (fa1 z 70 71 rfl rfl) (ae (ldp z 71 [14,15,16,17,18,19,20] rfl ⟨rfl,rfl,rfl,rfl,rfl,rfl,rfl,trivial⟩) (aj)))))))))))))))) Tryz.func14 rfl (by kernel_rfl) aC ⟨bE,⟨(bc (n:=64) (ks:=[0,1,2,3,4,5,6]) (s:=s) rfl ⟨rfl,rfl,rfl,rfl,rfl,rfl,rfl,trivial⟩).2 i,trivial⟩⟩ (cf rfl)).mono ?_
 rintro e w' ⟨v,B',rfl,h1,h2,h3⟩
 have e1:v= .int .i64 21:=h1
 subst e1
 exact⟨rfl,h2⟩
theorem q_addBN {w:World} {g:Nat} {sl:Value} (S:List St) (s:St) (v:Value) (h:TrkS 79 w g sl S) (i:ce w v s) (hs:s.pose.ok 2) (gs:s.pose.good) (hS:S.length≤64) (r0:0≤s.tm) (r1:s.tm≤1099511627776) (hq:plN S s.tm<S.length) (y:St) (hy:S[plN S s.tm]? =some y) (ky:y.pose.ok 2) (gy:y.pose.good) (ey:y.tm≠s.tm) (ho:¬y.tm<s.tm) (z:St) (hz:S[plN S s.tm - 1]? =some z) (kz:z.pose.ok 2) (gz:z.pose.good) (hp:0<plN S s.tm) (oz:¬opp z.pose s.pose) (oy:opp s.pose y.pose):
  Calls Tryz.prog 14 (.pointer (some ⟨g,0,none⟩)::[v]).toArray w fun e w'=>e= .returned (.int .i64 21)∧TrkM 79 w g sl S w':=by
 have hle:=a9 S s.tm
 have hin:=bi (s:=s) hle
 have hdr:((aJ S (plN S s.tm) s).drop 1).length=(aJ S (plN S s.tm) s).length - 1:=List.length_drop ..
 have ht1:(S.take (plN S s.tm)).length=plN S s.tm:=by rw[List.length_take];omega
 have ht2:(S.take (plN S s.tm)++ [s]).length=plN S s.tm+1:=by rw[List.length_append,ht1];rfl
 refine(aG (ρ:=frs (dy s y z)++([.rowB true sl stT S.length (az S),.val (.int .i64 s.tm),.val (.int .i64 ((plN S s.tm:Nat):Int)),.val (.int .i64 (S.length:Int)),.plc stT y.qs,.val (.int .i64 y.tm),.val (.int .i64 (((plN S s.tm:Nat):Int) - 1)),.plc stT z.qs,.plc stT (frs z.pose.cs),.plc stT (frs y.pose.cs)]:List Vp)) (w:=w) (fuel:=300) (m:=63) (S':=S) (args:=[.one (.ptr 0 0),.agg (.ref 64::bd [0,1,2,3,4,5,6])]) (vs:=[.pointer (some ⟨g,0,none⟩),v]) (r:=.v (.one (.i .i64 21))) (l:=.ref 63) (lo:=[]) (obs:=[]) h
  (af (cN (ka:=[0,1,2,3,4,5,6]) (a:=s.pose) ⟨rfl,rfl,rfl,rfl,rfl,rfl,rfl,trivial⟩ (hs.mono (by decide)) gs) (af (ma (ka:=[14,15,16,17,18,19,20]) (a:=z.pose) (kb:=[0,1,2,3,4,5,6]) (b:=s.pose) ⟨rfl,rfl,rfl,rfl,rfl,rfl,rfl,trivial⟩ ⟨rfl,rfl,rfl,rfl,rfl,rfl,rfl,trivial⟩ (kz.mono (by decide)) (hs.mono (by decide)) gz gs oz) (af (yd (ka:=[0,1,2,3,4,5,6]) (a:=s.pose) (kb:=[7,8,9,10,11,12,13]) (b:=y.pose) ⟨rfl,rfl,rfl,rfl,rfl,rfl,rfl,trivial⟩ ⟨rfl,rfl,rfl,rfl,rfl,rfl,rfl,trivial⟩ (hs.mono (by decide)) (ky.mono (by decide)) gs gy oy) ai)))
  (ae (bK (y:=0) (o:=0) (t:=39) ⟨_,Tryz.underlying39⟩) (ae (aw (t:=3) (ah (n:=64) rfl) (aF (c:=0)) (aK (by omega))) (ae (aw (t:=3) (ah (n:=64) rfl) (aF (c:=1099511627776)) (aQ (by omega))) (ae (cJ (u:=0) (m:=63) (S:=S) (a:=s.tm) (n:=65) (r:=.one .sl0) rfl (ah (n:=64) rfl) rfl (by omega)) (ae (bW 63 66 rfl rfl) (ae (aw (t:=3) (ah (n:=65) rfl) (ah (n:=66) rfl) (aL (by omega))) (ae (iaB (n:=63) (m:=67) rfl rfl (aU (ah (n:=65) rfl) (by omega)) hy) (ae (fa0 y 67 rfl) (ae (ldt y 67 68 rfl rfl) (ae (aw (t:=3) (ah (n:=68) rfl) (ah (n:=64) rfl) (a8 (by omega))) (ae (aw (t:=3) (ah (n:=65) rfl) (aF (c:=0)) (bm (by omega))) (ae (bQ (m:=69) (t:=3) (ah (n:=65) rfl) (aF (c:=1)) rfl rfl (by omega) (by omega)) (ae (iaB (n:=63) (m:=70) rfl rfl (aU (ah (n:=69) rfl) (by omega)) hz) (ae (fa1 z 70 71 rfl rfl) (ae (ldp z 71 [14,15,16,17,18,19,20] rfl ⟨rfl,rfl,rfl,rfl,rfl,rfl,rfl,trivial⟩) (ae (fa1 y 67 72 rfl rfl) (ae (ldp y 72 [7,8,9,10,11,12,13] rfl ⟨rfl,rfl,rfl,rfl,rfl,rfl,rfl,trivial⟩) (aj)))))))))))))))))) Tryz.func14 rfl (by kernel_rfl) aC ⟨bE,⟨(bc (n:=64) (ks:=[0,1,2,3,4,5,6]) (s:=s) rfl ⟨rfl,rfl,rfl,rfl,rfl,rfl,rfl,trivial⟩).2 i,trivial⟩⟩ (cf rfl)).mono ?_
 rintro e w' ⟨v,B',rfl,h1,h2,h3⟩
 have e1:v= .int .i64 21:=h1
 subst e1
 exact⟨rfl,h2⟩
theorem q_addN {w:World} {g:Nat} {sl:Value} (S:List St) (s:St) (v:Value) (h:TrkS 79 w g sl S) (i:ce w v s) (hs:s.pose.ok 2) (gs:s.pose.good) (hS:S.length≤64) (r0:0≤s.tm) (r1:s.tm≤1099511627776) (hq:plN S s.tm=S.length) (hp:plN S s.tm=0):
  Calls Tryz.prog 14 (.pointer (some ⟨g,0,none⟩)::[v]).toArray w fun e w'=>e= .returned (.int .i64 0)∧TrkM 79 w g sl (aJ S (plN S s.tm) s) w':=by
 have hle:=a9 S s.tm
 have hin:=bi (s:=s) hle
 have hdr:((aJ S (plN S s.tm) s).drop 1).length=(aJ S (plN S s.tm) s).length - 1:=List.length_drop ..
 have ht1:(S.take (plN S s.tm)).length=plN S s.tm:=by rw[List.length_take];omega
 have ht2:(S.take (plN S s.tm)++ [s]).length=plN S s.tm+1:=by rw[List.length_append,ht1];rfl
 refine(aG (ρ:=frs (dy s zst zst)++([.rowB true sl stT S.length (az S),.val (.int .i64 s.tm),.val (.int .i64 ((plN S s.tm:Nat):Int)),.val (.int .i64 (S.length:Int)),.ownr stT 22 S.length (az S),.row stT 1 s.qs,.ownr stT 22 (aJ S (plN S s.tm) s).length (az (aJ S (plN S s.tm) s)),.val (.int .i64 ((aJ S (plN S s.tm) s).length:Int))]:List Vp)) (w:=w) (fuel:=300) (m:=63) (S':=aJ S (plN S s.tm) s) (args:=[.one (.ptr 0 0),.agg (.ref 64::bd [0,1,2,3,4,5,6])]) (vs:=[.pointer (some ⟨g,0,none⟩),v]) (r:=.v (.one (.i .i64 0))) (l:=.own 0 69) (lo:=[]) (obs:=[]) h
  (af (cN (ka:=[0,1,2,3,4,5,6]) (a:=s.pose) ⟨rfl,rfl,rfl,rfl,rfl,rfl,rfl,trivial⟩ (hs.mono (by decide)) gs) (af (jw (n:=64) (ks:=[0,1,2,3,4,5,6]) (s:=s) rfl ⟨rfl,rfl,rfl,rfl,rfl,rfl,rfl,trivial⟩ (hs.mono (by decide))) ai))
  (ae (bK (y:=0) (o:=0) (t:=39) ⟨_,Tryz.underlying39⟩) (ae (aw (t:=3) (ah (n:=64) rfl) (aF (c:=0)) (aK (by omega))) (ae (aw (t:=3) (ah (n:=64) rfl) (aF (c:=1099511627776)) (aQ (by omega))) (ae (cJ (u:=0) (m:=63) (S:=S) (a:=s.tm) (n:=65) (r:=.one .sl0) rfl (ah (n:=64) rfl) rfl (by omega)) (ae (bW 63 66 rfl rfl) (ae (aw (t:=3) (ah (n:=65) rfl) (ah (n:=66) rfl) (aK (by omega))) (ae (aw (t:=3) (ah (n:=65) rfl) (aF (c:=0)) (aQ (by omega))) (ae (dk (k:=0) (m:=67) (S:=S) (r:=.one .sl0) (fq (n:=63) rfl) rfl (by omega)) (ae (gH (n:=64) (ks:=[0,1,2,3,4,5,6]) (m:=68) (s:=s) rfl ⟨rfl,rfl,rfl,rfl,rfl,rfl,rfl,trivial⟩ rfl) (ae (ee (k:=0) (n:=67) (xn:=68) (i:=plN S s.tm) (s:=s) (m:=69) (r:=.one .sl0) rfl rfl (aU (ah (n:=65) rfl) (by omega)) rfl (by omega) (by omega)) (ae (eD (j:=0) (n:=69) (t:=22) ⟨_,Tryz.underlying22⟩ rfl (l:=.ref 70) (fun _ _=>aH rfl aE)) (ae (aw (t:=3) (ah (n:=70) rfl) (aF (c:=64)) (aQ (by omega))) (aj))))))))))))) Tryz.func14 rfl (by kernel_rfl) aC ⟨bE,⟨(bc (n:=64) (ks:=[0,1,2,3,4,5,6]) (s:=s) rfl ⟨rfl,rfl,rfl,rfl,rfl,rfl,rfl,trivial⟩).2 i,trivial⟩⟩ (l8 rfl)).mono ?_
 rintro e w' ⟨v,B',rfl,h1,h2,h3⟩
 have e1:v= .int .i64 0:=h1
 subst e1
 exact⟨rfl,h2⟩
theorem q_addI0 {w:World} {g:Nat} {sl:Value} (S:List St) (s:St) (v:Value) (h:TrkS 79 w g sl S) (i:ce w v s) (hs:s.pose.ok 2) (gs:s.pose.good) (hS:S.length≤64) (r0:0≤s.tm) (r1:s.tm≤1099511627776) (hq:plN S s.tm<S.length) (hp:plN S s.tm=0) (y:St) (hy:S[plN S s.tm]? =some y) (ky:y.pose.ok 2) (gy:y.pose.good) (ey:y.tm≠s.tm) (ho:¬y.tm<s.tm) (oy:¬opp s.pose y.pose) (hl:S.length<64):
  Calls Tryz.prog 14 (.pointer (some ⟨g,0,none⟩)::[v]).toArray w fun e w'=>e= .returned (.int .i64 0)∧TrkM 79 w g sl (aJ S (plN S s.tm) s) w':=by
 have hle:=a9 S s.tm
 have hin:=bi (s:=s) hle
 have hdr:((aJ S (plN S s.tm) s).drop 1).length=(aJ S (plN S s.tm) s).length - 1:=List.length_drop ..
 have ht1:(S.take (plN S s.tm)).length=plN S s.tm:=by rw[List.length_take];omega
 have ht2:(S.take (plN S s.tm)++ [s]).length=plN S s.tm+1:=by rw[List.length_append,ht1];rfl
 refine(aG (ρ:=frs (dy s y zst)++([.rowB true sl stT S.length (az S),.val (.int .i64 s.tm),.val (.int .i64 ((plN S s.tm:Nat):Int)),.val (.int .i64 (S.length:Int)),.plc stT y.qs,.val (.int .i64 y.tm),.plc stT (frs y.pose.cs),.ownr stT 22 S.length (az S),.row stT 1 s.qs,.ownr stT 22 (aJ S (plN S s.tm) s).length (az (aJ S (plN S s.tm) s)),.val (.int .i64 ((aJ S (plN S s.tm) s).length:Int))]:List Vp)) (w:=w) (fuel:=300) (m:=63) (S':=aJ S (plN S s.tm) s) (args:=[.one (.ptr 0 0),.agg (.ref 64::bd [0,1,2,3,4,5,6])]) (vs:=[.pointer (some ⟨g,0,none⟩),v]) (r:=.v (.one (.i .i64 0))) (l:=.own 0 72) (lo:=[]) (obs:=[]) h
  (af (cN (ka:=[0,1,2,3,4,5,6]) (a:=s.pose) ⟨rfl,rfl,rfl,rfl,rfl,rfl,rfl,trivial⟩ (hs.mono (by decide)) gs) (af (ma (ka:=[0,1,2,3,4,5,6]) (a:=s.pose) (kb:=[7,8,9,10,11,12,13]) (b:=y.pose) ⟨rfl,rfl,rfl,rfl,rfl,rfl,rfl,trivial⟩ ⟨rfl,rfl,rfl,rfl,rfl,rfl,rfl,trivial⟩ (hs.mono (by decide)) (ky.mono (by decide)) gs gy oy) (af (jw (n:=64) (ks:=[0,1,2,3,4,5,6]) (s:=s) rfl ⟨rfl,rfl,rfl,rfl,rfl,rfl,rfl,trivial⟩ (hs.mono (by decide))) ai)))
  (ae (bK (y:=0) (o:=0) (t:=39) ⟨_,Tryz.underlying39⟩) (ae (aw (t:=3) (ah (n:=64) rfl) (aF (c:=0)) (aK (by omega))) (ae (aw (t:=3) (ah (n:=64) rfl) (aF (c:=1099511627776)) (aQ (by omega))) (ae (cJ (u:=0) (m:=63) (S:=S) (a:=s.tm) (n:=65) (r:=.one .sl0) rfl (ah (n:=64) rfl) rfl (by omega)) (ae (bW 63 66 rfl rfl) (ae (aw (t:=3) (ah (n:=65) rfl) (ah (n:=66) rfl) (aL (by omega))) (ae (iaB (n:=63) (m:=67) rfl rfl (aU (ah (n:=65) rfl) (by omega)) hy) (ae (fa0 y 67 rfl) (ae (ldt y 67 68 rfl rfl) (ae (aw (t:=3) (ah (n:=68) rfl) (ah (n:=64) rfl) (a8 (by omega))) (ae (aw (t:=3) (ah (n:=65) rfl) (aF (c:=0)) (aQ (by omega))) (ae (fa1 y 67 69 rfl rfl) (ae (ldp y 69 [7,8,9,10,11,12,13] rfl ⟨rfl,rfl,rfl,rfl,rfl,rfl,rfl,trivial⟩) (ae (dk (k:=0) (m:=70) (S:=S) (r:=.one .sl0) (fq (n:=63) rfl) rfl (by omega)) (ae (gH (n:=64) (ks:=[0,1,2,3,4,5,6]) (m:=71) (s:=s) rfl ⟨rfl,rfl,rfl,rfl,rfl,rfl,rfl,trivial⟩ rfl) (ae (ee (k:=0) (n:=70) (xn:=71) (i:=plN S s.tm) (s:=s) (m:=72) (r:=.one .sl0) rfl rfl (aU (ah (n:=65) rfl) (by omega)) rfl (by omega) (by omega)) (ae (eD (j:=0) (n:=72) (t:=22) ⟨_,Tryz.underlying22⟩ rfl (l:=.ref 73) (fun _ _=>aH rfl aE)) (ae (aw (t:=3) (ah (n:=73) rfl) (aF (c:=64)) (aQ (by omega))) (aj))))))))))))))))))) Tryz.func14 rfl (by kernel_rfl) aC ⟨bE,⟨(bc (n:=64) (ks:=[0,1,2,3,4,5,6]) (s:=s) rfl ⟨rfl,rfl,rfl,rfl,rfl,rfl,rfl,trivial⟩).2 i,trivial⟩⟩ (l8 rfl)).mono ?_
 rintro e w' ⟨v,B',rfl,h1,h2,h3⟩
 have e1:v= .int .i64 0:=h1
 subst e1
 exact⟨rfl,h2⟩
theorem q_addIE {w:World} {g:Nat} {sl:Value} (S:List St) (s:St) (v:Value) (h:TrkS 79 w g sl S) (i:ce w v s) (hs:s.pose.ok 2) (gs:s.pose.good) (hS:S.length≤64) (r0:0≤s.tm) (r1:s.tm≤1099511627776) (hq:plN S s.tm=S.length) (z:St) (hz:S[plN S s.tm - 1]? =some z) (kz:z.pose.ok 2) (gz:z.pose.good) (hp:0<plN S s.tm) (oz:¬opp z.pose s.pose) (hl:S.length<64):
  Calls Tryz.prog 14 (.pointer (some ⟨g,0,none⟩)::[v]).toArray w fun e w'=>e= .returned (.int .i64 0)∧TrkM 79 w g sl (aJ S (plN S s.tm) s) w':=by
 have hle:=a9 S s.tm
 have hin:=bi (s:=s) hle
 have hdr:((aJ S (plN S s.tm) s).drop 1).length=(aJ S (plN S s.tm) s).length - 1:=List.length_drop ..
 have ht1:(S.take (plN S s.tm)).length=plN S s.tm:=by rw[List.length_take];omega
 have ht2:(S.take (plN S s.tm)++ [s]).length=plN S s.tm+1:=by rw[List.length_append,ht1];rfl
 refine(aG (ρ:=frs (dy s zst z)++([.rowB true sl stT S.length (az S),.val (.int .i64 s.tm),.val (.int .i64 ((plN S s.tm:Nat):Int)),.val (.int .i64 (S.length:Int)),.val (.int .i64 (((plN S s.tm:Nat):Int) - 1)),.plc stT z.qs,.plc stT (frs z.pose.cs),.ownr stT 22 S.length (az S),.row stT 1 s.qs,.ownr stT 22 (aJ S (plN S s.tm) s).length (az (aJ S (plN S s.tm) s)),.val (.int .i64 ((aJ S (plN S s.tm) s).length:Int))]:List Vp)) (w:=w) (fuel:=300) (m:=63) (S':=aJ S (plN S s.tm) s) (args:=[.one (.ptr 0 0),.agg (.ref 64::bd [0,1,2,3,4,5,6])]) (vs:=[.pointer (some ⟨g,0,none⟩),v]) (r:=.v (.one (.i .i64 0))) (l:=.own 0 72) (lo:=[]) (obs:=[]) h
  (af (cN (ka:=[0,1,2,3,4,5,6]) (a:=s.pose) ⟨rfl,rfl,rfl,rfl,rfl,rfl,rfl,trivial⟩ (hs.mono (by decide)) gs) (af (ma (ka:=[14,15,16,17,18,19,20]) (a:=z.pose) (kb:=[0,1,2,3,4,5,6]) (b:=s.pose) ⟨rfl,rfl,rfl,rfl,rfl,rfl,rfl,trivial⟩ ⟨rfl,rfl,rfl,rfl,rfl,rfl,rfl,trivial⟩ (kz.mono (by decide)) (hs.mono (by decide)) gz gs oz) (af (jw (n:=64) (ks:=[0,1,2,3,4,5,6]) (s:=s) rfl ⟨rfl,rfl,rfl,rfl,rfl,rfl,rfl,trivial⟩ (hs.mono (by decide))) ai)))
  (ae (bK (y:=0) (o:=0) (t:=39) ⟨_,Tryz.underlying39⟩) (ae (aw (t:=3) (ah (n:=64) rfl) (aF (c:=0)) (aK (by omega))) (ae (aw (t:=3) (ah (n:=64) rfl) (aF (c:=1099511627776)) (aQ (by omega))) (ae (cJ (u:=0) (m:=63) (S:=S) (a:=s.tm) (n:=65) (r:=.one .sl0) rfl (ah (n:=64) rfl) rfl (by omega)) (ae (bW 63 66 rfl rfl) (ae (aw (t:=3) (ah (n:=65) rfl) (ah (n:=66) rfl) (aK (by omega))) (ae (aw (t:=3) (ah (n:=65) rfl) (aF (c:=0)) (bm (by omega))) (ae (bQ (m:=67) (t:=3) (ah (n:=65) rfl) (aF (c:=1)) rfl rfl (by omega) (by omega)) (ae (iaB (n:=63) (m:=68) rfl rfl (aU (ah (n:=67) rfl) (by omega)) hz) (ae (fa1 z 68 69 rfl rfl) (ae (ldp z 69 [14,15,16,17,18,19,20] rfl ⟨rfl,rfl,rfl,rfl,rfl,rfl,rfl,trivial⟩) (ae (dk (k:=0) (m:=70) (S:=S) (r:=.one .sl0) (fq (n:=63) rfl) rfl (by omega)) (ae (gH (n:=64) (ks:=[0,1,2,3,4,5,6]) (m:=71) (s:=s) rfl ⟨rfl,rfl,rfl,rfl,rfl,rfl,rfl,trivial⟩ rfl) (ae (ee (k:=0) (n:=70) (xn:=71) (i:=plN S s.tm) (s:=s) (m:=72) (r:=.one .sl0) rfl rfl (aU (ah (n:=65) rfl) (by omega)) rfl (by omega) (by omega)) (ae (eD (j:=0) (n:=72) (t:=22) ⟨_,Tryz.underlying22⟩ rfl (l:=.ref 73) (fun _ _=>aH rfl aE)) (ae (aw (t:=3) (ah (n:=73) rfl) (aF (c:=64)) (aQ (by omega))) (aj))))))))))))))))) Tryz.func14 rfl (by kernel_rfl) aC ⟨bE,⟨(bc (n:=64) (ks:=[0,1,2,3,4,5,6]) (s:=s) rfl ⟨rfl,rfl,rfl,rfl,rfl,rfl,rfl,trivial⟩).2 i,trivial⟩⟩ (l8 rfl)).mono ?_
 rintro e w' ⟨v,B',rfl,h1,h2,h3⟩
 have e1:v= .int .i64 0:=h1
 subst e1
 exact⟨rfl,h2⟩
theorem q_addIM {w:World} {g:Nat} {sl:Value} (S:List St) (s:St) (v:Value) (h:TrkS 79 w g sl S) (i:ce w v s) (hs:s.pose.ok 2) (gs:s.pose.good) (hS:S.length≤64) (r0:0≤s.tm) (r1:s.tm≤1099511627776) (hq:plN S s.tm<S.length) (y:St) (hy:S[plN S s.tm]? =some y) (ky:y.pose.ok 2) (gy:y.pose.good) (ey:y.tm≠s.tm) (ho:¬y.tm<s.tm) (z:St) (hz:S[plN S s.tm - 1]? =some z) (kz:z.pose.ok 2) (gz:z.pose.good) (hp:0<plN S s.tm) (oz:¬opp z.pose s.pose) (oy:¬opp s.pose y.pose) (hl:S.length<64):
  Calls Tryz.prog 14 (.pointer (some ⟨g,0,none⟩)::[v]).toArray w fun e w'=>e= .returned (.int .i64 0)∧TrkM 79 w g sl (aJ S (plN S s.tm) s) w':=by
 have hle:=a9 S s.tm
 have hin:=bi (s:=s) hle
 have hdr:((aJ S (plN S s.tm) s).drop 1).length=(aJ S (plN S s.tm) s).length - 1:=List.length_drop ..
 have ht1:(S.take (plN S s.tm)).length=plN S s.tm:=by rw[List.length_take];omega
 have ht2:(S.take (plN S s.tm)++ [s]).length=plN S s.tm+1:=by rw[List.length_append,ht1];rfl
 refine(aG (ρ:=frs (dy s y z)++([.rowB true sl stT S.length (az S),.val (.int .i64 s.tm),.val (.int .i64 ((plN S s.tm:Nat):Int)),.val (.int .i64 (S.length:Int)),.plc stT y.qs,.val (.int .i64 y.tm),.val (.int .i64 (((plN S s.tm:Nat):Int) - 1)),.plc stT z.qs,.plc stT (frs z.pose.cs),.plc stT (frs y.pose.cs),.ownr stT 22 S.length (az S),.row stT 1 s.qs,.ownr stT 22 (aJ S (plN S s.tm) s).length (az (aJ S (plN S s.tm) s)),.val (.int .i64 ((aJ S (plN S s.tm) s).length:Int))]:List Vp)) (w:=w) (fuel:=300) (m:=63) (S':=aJ S (plN S s.tm) s) (args:=[.one (.ptr 0 0),.agg (.ref 64::bd [0,1,2,3,4,5,6])]) (vs:=[.pointer (some ⟨g,0,none⟩),v]) (r:=.v (.one (.i .i64 0))) (l:=.own 0 75) (lo:=[]) (obs:=[]) h
  (af (cN (ka:=[0,1,2,3,4,5,6]) (a:=s.pose) ⟨rfl,rfl,rfl,rfl,rfl,rfl,rfl,trivial⟩ (hs.mono (by decide)) gs) (af (ma (ka:=[14,15,16,17,18,19,20]) (a:=z.pose) (kb:=[0,1,2,3,4,5,6]) (b:=s.pose) ⟨rfl,rfl,rfl,rfl,rfl,rfl,rfl,trivial⟩ ⟨rfl,rfl,rfl,rfl,rfl,rfl,rfl,trivial⟩ (kz.mono (by decide)) (hs.mono (by decide)) gz gs oz) (af (ma (ka:=[0,1,2,3,4,5,6]) (a:=s.pose) (kb:=[7,8,9,10,11,12,13]) (b:=y.pose) ⟨rfl,rfl,rfl,rfl,rfl,rfl,rfl,trivial⟩ ⟨rfl,rfl,rfl,rfl,rfl,rfl,rfl,trivial⟩ (hs.mono (by decide)) (ky.mono (by decide)) gs gy oy) (af (jw (n:=64) (ks:=[0,1,2,3,4,5,6]) (s:=s) rfl ⟨rfl,rfl,rfl,rfl,rfl,rfl,rfl,trivial⟩ (hs.mono (by decide))) ai))))
  (ae (bK (y:=0) (o:=0) (t:=39) ⟨_,Tryz.underlying39⟩) (ae (aw (t:=3) (ah (n:=64) rfl) (aF (c:=0)) (aK (by omega))) (ae (aw (t:=3) (ah (n:=64) rfl) (aF (c:=1099511627776)) (aQ (by omega))) (ae (cJ (u:=0) (m:=63) (S:=S) (a:=s.tm) (n:=65) (r:=.one .sl0) rfl (ah (n:=64) rfl) rfl (by omega)) (ae (bW 63 66 rfl rfl) (ae (aw (t:=3) (ah (n:=65) rfl) (ah (n:=66) rfl) (aL (by omega))) (ae (iaB (n:=63) (m:=67) rfl rfl (aU (ah (n:=65) rfl) (by omega)) hy) (ae (fa0 y 67 rfl) (ae (ldt y 67 68 rfl rfl) (ae (aw (t:=3) (ah (n:=68) rfl) (ah (n:=64) rfl) (a8 (by omega))) (ae (aw (t:=3) (ah (n:=65) rfl) (aF (c:=0)) (bm (by omega))) (ae (bQ (m:=69) (t:=3) (ah (n:=65) rfl) (aF (c:=1)) rfl rfl (by omega) (by omega)) (ae (iaB (n:=63) (m:=70) rfl rfl (aU (ah (n:=69) rfl) (by omega)) hz) (ae (fa1 z 70 71 rfl rfl) (ae (ldp z 71 [14,15,16,17,18,19,20] rfl ⟨rfl,rfl,rfl,rfl,rfl,rfl,rfl,trivial⟩) (ae (fa1 y 67 72 rfl rfl) (ae (ldp y 72 [7,8,9,10,11,12,13] rfl ⟨rfl,rfl,rfl,rfl,rfl,rfl,rfl,trivial⟩) (ae (dk (k:=0) (m:=73) (S:=S) (r:=.one .sl0) (fq (n:=63) rfl) rfl (by omega)) (ae (gH (n:=64) (ks:=[0,1,2,3,4,5,6]) (m:=74) (s:=s) rfl ⟨rfl,rfl,rfl,rfl,rfl,rfl,rfl,trivial⟩ rfl) (ae (ee (k:=0) (n:=73) (xn:=74) (i:=plN S s.tm) (s:=s) (m:=75) (r:=.one .sl0) rfl rfl (aU (ah (n:=65) rfl) (by omega)) rfl (by omega) (by omega)) (ae (eD (j:=0) (n:=75) (t:=22) ⟨_,Tryz.underlying22⟩ rfl (l:=.ref 76) (fun _ _=>aH rfl aE)) (ae (aw (t:=3) (ah (n:=76) rfl) (aF (c:=64)) (aQ (by omega))) (aj))))))))))))))))))))))) Tryz.func14 rfl (by kernel_rfl) aC ⟨bE,⟨(bc (n:=64) (ks:=[0,1,2,3,4,5,6]) (s:=s) rfl ⟨rfl,rfl,rfl,rfl,rfl,rfl,rfl,trivial⟩).2 i,trivial⟩⟩ (l8 rfl)).mono ?_
 rintro e w' ⟨v,B',rfl,h1,h2,h3⟩
 have e1:v= .int .i64 0:=h1
 subst e1
 exact⟨rfl,h2⟩
theorem q_addI0D {w:World} {g:Nat} {sl:Value} (S:List St) (s:St) (v:Value) (h:TrkS 79 w g sl S) (i:ce w v s) (hs:s.pose.ok 2) (gs:s.pose.good) (hS:S.length≤64) (r0:0≤s.tm) (r1:s.tm≤1099511627776) (hq:plN S s.tm<S.length) (hp:plN S s.tm=0) (y:St) (hy:S[plN S s.tm]? =some y) (ky:y.pose.ok 2) (gy:y.pose.good) (ey:y.tm≠s.tm) (ho:¬y.tm<s.tm) (oy:¬opp s.pose y.pose) (hl:S.length=64):
  Calls Tryz.prog 14 (.pointer (some ⟨g,0,none⟩)::[v]).toArray w fun e w'=>e= .returned (.int .i64 0)∧TrkM 79 w g sl ((aJ S (plN S s.tm) s).drop 1) w':=by
 have hle:=a9 S s.tm
 have hin:=bi (s:=s) hle
 have hdr:((aJ S (plN S s.tm) s).drop 1).length=(aJ S (plN S s.tm) s).length - 1:=List.length_drop ..
 have ht1:(S.take (plN S s.tm)).length=plN S s.tm:=by rw[List.length_take];omega
 have ht2:(S.take (plN S s.tm)++ [s]).length=plN S s.tm+1:=by rw[List.length_append,ht1];rfl
 refine(aG (ρ:=frs (dy s y zst)++([.rowB true sl stT S.length (az S),.val (.int .i64 s.tm),.val (.int .i64 ((plN S s.tm:Nat):Int)),.val (.int .i64 (S.length:Int)),.plc stT y.qs,.val (.int .i64 y.tm),.plc stT (frs y.pose.cs),.ownr stT 22 S.length (az S),.row stT 1 s.qs,.ownr stT 22 (aJ S (plN S s.tm) s).length (az (aJ S (plN S s.tm) s)),.val (.int .i64 ((aJ S (plN S s.tm) s).length:Int)),.row stT ((aJ S (plN S s.tm) s).drop 1).length (az ((aJ S (plN S s.tm) s).drop 1)),.ownr stT 22 ((aJ S (plN S s.tm) s).drop 1).length (az ((aJ S (plN S s.tm) s).drop 1))]:List Vp)) (w:=w) (fuel:=300) (m:=63) (S':=(aJ S (plN S s.tm) s).drop 1) (args:=[.one (.ptr 0 0),.agg (.ref 64::bd [0,1,2,3,4,5,6])]) (vs:=[.pointer (some ⟨g,0,none⟩),v]) (r:=.v (.one (.i .i64 0))) (l:=.own 1 75) (lo:=[]) (obs:=[]) h
  (af (cN (ka:=[0,1,2,3,4,5,6]) (a:=s.pose) ⟨rfl,rfl,rfl,rfl,rfl,rfl,rfl,trivial⟩ (hs.mono (by decide)) gs) (af (ma (ka:=[0,1,2,3,4,5,6]) (a:=s.pose) (kb:=[7,8,9,10,11,12,13]) (b:=y.pose) ⟨rfl,rfl,rfl,rfl,rfl,rfl,rfl,trivial⟩ ⟨rfl,rfl,rfl,rfl,rfl,rfl,rfl,trivial⟩ (hs.mono (by decide)) (ky.mono (by decide)) gs gy oy) (af (jw (n:=64) (ks:=[0,1,2,3,4,5,6]) (s:=s) rfl ⟨rfl,rfl,rfl,rfl,rfl,rfl,rfl,trivial⟩ (hs.mono (by decide))) ai)))
  (ae (bK (y:=0) (o:=0) (t:=39) ⟨_,Tryz.underlying39⟩) (ae (aw (t:=3) (ah (n:=64) rfl) (aF (c:=0)) (aK (by omega))) (ae (aw (t:=3) (ah (n:=64) rfl) (aF (c:=1099511627776)) (aQ (by omega))) (ae (cJ (u:=0) (m:=63) (S:=S) (a:=s.tm) (n:=65) (r:=.one .sl0) rfl (ah (n:=64) rfl) rfl (by omega)) (ae (bW 63 66 rfl rfl) (ae (aw (t:=3) (ah (n:=65) rfl) (ah (n:=66) rfl) (aL (by omega))) (ae (iaB (n:=63) (m:=67) rfl rfl (aU (ah (n:=65) rfl) (by omega)) hy) (ae (fa0 y 67 rfl) (ae (ldt y 67 68 rfl rfl) (ae (aw (t:=3) (ah (n:=68) rfl) (ah (n:=64) rfl) (a8 (by omega))) (ae (aw (t:=3) (ah (n:=65) rfl) (aF (c:=0)) (aQ (by omega))) (ae (fa1 y 67 69 rfl rfl) (ae (ldp y 69 [7,8,9,10,11,12,13] rfl ⟨rfl,rfl,rfl,rfl,rfl,rfl,rfl,trivial⟩) (ae (dk (k:=0) (m:=70) (S:=S) (r:=.one .sl0) (fq (n:=63) rfl) rfl (by omega)) (ae (gH (n:=64) (ks:=[0,1,2,3,4,5,6]) (m:=71) (s:=s) rfl ⟨rfl,rfl,rfl,rfl,rfl,rfl,rfl,trivial⟩ rfl) (ae (ee (k:=0) (n:=70) (xn:=71) (i:=plN S s.tm) (s:=s) (m:=72) (r:=.one .sl0) rfl rfl (aU (ah (n:=65) rfl) (by omega)) rfl (by omega) (by omega)) (ae (eD (j:=0) (n:=72) (t:=22) ⟨_,Tryz.underlying22⟩ rfl (l:=.ref 73) (fun _ _=>aH rfl aE)) (ae (aw (t:=3) (ah (n:=73) rfl) (aF (c:=64)) (bm (by omega))) (ae (g9 (j:=0) (n:=72) (m:=74) (k:=1) (t:=22) Tryz.underlying22 (by kernel_rfl) rfl (by rfl) rfl (aU (aF (c:=1)) (by omega)) (by omega)) (ae (dk (k:=1) (m:=75) (S:=((aJ S (plN S s.tm) s).drop 1)) (r:=.one .sl0) (rl_o (j:=0) (n:=74) rfl) rfl (by omega)) (aj))))))))))))))))))))) Tryz.func14 rfl (by kernel_rfl) aC ⟨bE,⟨(bc (n:=64) (ks:=[0,1,2,3,4,5,6]) (s:=s) rfl ⟨rfl,rfl,rfl,rfl,rfl,rfl,rfl,trivial⟩).2 i,trivial⟩⟩ (l8 rfl)).mono ?_
 rintro e w' ⟨v,B',rfl,h1,h2,h3⟩
 have e1:v= .int .i64 0:=h1
 subst e1
 exact⟨rfl,h2⟩
theorem q_addIED {w:World} {g:Nat} {sl:Value} (S:List St) (s:St) (v:Value) (h:TrkS 79 w g sl S) (i:ce w v s) (hs:s.pose.ok 2) (gs:s.pose.good) (hS:S.length≤64) (r0:0≤s.tm) (r1:s.tm≤1099511627776) (hq:plN S s.tm=S.length) (z:St) (hz:S[plN S s.tm - 1]? =some z) (kz:z.pose.ok 2) (gz:z.pose.good) (hp:0<plN S s.tm) (oz:¬opp z.pose s.pose) (hl:S.length=64):
  Calls Tryz.prog 14 (.pointer (some ⟨g,0,none⟩)::[v]).toArray w fun e w'=>e= .returned (.int .i64 0)∧TrkM 79 w g sl ((aJ S (plN S s.tm) s).drop 1) w':=by
 have hle:=a9 S s.tm
 have hin:=bi (s:=s) hle
 have hdr:((aJ S (plN S s.tm) s).drop 1).length=(aJ S (plN S s.tm) s).length - 1:=List.length_drop ..
 have ht1:(S.take (plN S s.tm)).length=plN S s.tm:=by rw[List.length_take];omega
 have ht2:(S.take (plN S s.tm)++ [s]).length=plN S s.tm+1:=by rw[List.length_append,ht1];rfl
 refine(aG (ρ:=frs (dy s zst z)++([.rowB true sl stT S.length (az S),.val (.int .i64 s.tm),.val (.int .i64 ((plN S s.tm:Nat):Int)),.val (.int .i64 (S.length:Int)),.val (.int .i64 (((plN S s.tm:Nat):Int) - 1)),.plc stT z.qs,.plc stT (frs z.pose.cs),.ownr stT 22 S.length (az S),.row stT 1 s.qs,.ownr stT 22 (aJ S (plN S s.tm) s).length (az (aJ S (plN S s.tm) s)),.val (.int .i64 ((aJ S (plN S s.tm) s).length:Int)),.row stT ((aJ S (plN S s.tm) s).drop 1).length (az ((aJ S (plN S s.tm) s).drop 1)),.ownr stT 22 ((aJ S (plN S s.tm) s).drop 1).length (az ((aJ S (plN S s.tm) s).drop 1))]:List Vp)) (w:=w) (fuel:=300) (m:=63) (S':=(aJ S (plN S s.tm) s).drop 1) (args:=[.one (.ptr 0 0),.agg (.ref 64::bd [0,1,2,3,4,5,6])]) (vs:=[.pointer (some ⟨g,0,none⟩),v]) (r:=.v (.one (.i .i64 0))) (l:=.own 1 75) (lo:=[]) (obs:=[]) h
  (af (cN (ka:=[0,1,2,3,4,5,6]) (a:=s.pose) ⟨rfl,rfl,rfl,rfl,rfl,rfl,rfl,trivial⟩ (hs.mono (by decide)) gs) (af (ma (ka:=[14,15,16,17,18,19,20]) (a:=z.pose) (kb:=[0,1,2,3,4,5,6]) (b:=s.pose) ⟨rfl,rfl,rfl,rfl,rfl,rfl,rfl,trivial⟩ ⟨rfl,rfl,rfl,rfl,rfl,rfl,rfl,trivial⟩ (kz.mono (by decide)) (hs.mono (by decide)) gz gs oz) (af (jw (n:=64) (ks:=[0,1,2,3,4,5,6]) (s:=s) rfl ⟨rfl,rfl,rfl,rfl,rfl,rfl,rfl,trivial⟩ (hs.mono (by decide))) ai)))
  (ae (bK (y:=0) (o:=0) (t:=39) ⟨_,Tryz.underlying39⟩) (ae (aw (t:=3) (ah (n:=64) rfl) (aF (c:=0)) (aK (by omega))) (ae (aw (t:=3) (ah (n:=64) rfl) (aF (c:=1099511627776)) (aQ (by omega))) (ae (cJ (u:=0) (m:=63) (S:=S) (a:=s.tm) (n:=65) (r:=.one .sl0) rfl (ah (n:=64) rfl) rfl (by omega)) (ae (bW 63 66 rfl rfl) (ae (aw (t:=3) (ah (n:=65) rfl) (ah (n:=66) rfl) (aK (by omega))) (ae (aw (t:=3) (ah (n:=65) rfl) (aF (c:=0)) (bm (by omega))) (ae (bQ (m:=67) (t:=3) (ah (n:=65) rfl) (aF (c:=1)) rfl rfl (by omega) (by omega)) (ae (iaB (n:=63) (m:=68) rfl rfl (aU (ah (n:=67) rfl) (by omega)) hz) (ae (fa1 z 68 69 rfl rfl) (ae (ldp z 69 [14,15,16,17,18,19,20] rfl ⟨rfl,rfl,rfl,rfl,rfl,rfl,rfl,trivial⟩) (ae (dk (k:=0) (m:=70) (S:=S) (r:=.one .sl0) (fq (n:=63) rfl) rfl (by omega)) (ae (gH (n:=64) (ks:=[0,1,2,3,4,5,6]) (m:=71) (s:=s) rfl ⟨rfl,rfl,rfl,rfl,rfl,rfl,rfl,trivial⟩ rfl) (ae (ee (k:=0) (n:=70) (xn:=71) (i:=plN S s.tm) (s:=s) (m:=72) (r:=.one .sl0) rfl rfl (aU (ah (n:=65) rfl) (by omega)) rfl (by omega) (by omega)) (ae (eD (j:=0) (n:=72) (t:=22) ⟨_,Tryz.underlying22⟩ rfl (l:=.ref 73) (fun _ _=>aH rfl aE)) (ae (aw (t:=3) (ah (n:=73) rfl) (aF (c:=64)) (bm (by omega))) (ae (g9 (j:=0) (n:=72) (m:=74) (k:=1) (t:=22) Tryz.underlying22 (by kernel_rfl) rfl (by rfl) rfl (aU (aF (c:=1)) (by omega)) (by omega)) (ae (dk (k:=1) (m:=75) (S:=((aJ S (plN S s.tm) s).drop 1)) (r:=.one .sl0) (rl_o (j:=0) (n:=74) rfl) rfl (by omega)) (aj))))))))))))))))))) Tryz.func14 rfl (by kernel_rfl) aC ⟨bE,⟨(bc (n:=64) (ks:=[0,1,2,3,4,5,6]) (s:=s) rfl ⟨rfl,rfl,rfl,rfl,rfl,rfl,rfl,trivial⟩).2 i,trivial⟩⟩ (l8 rfl)).mono ?_
 rintro e w' ⟨v,B',rfl,h1,h2,h3⟩
 have e1:v= .int .i64 0:=h1
 subst e1
 exact⟨rfl,h2⟩
theorem q_addIMD {w:World} {g:Nat} {sl:Value} (S:List St) (s:St) (v:Value) (h:TrkS 79 w g sl S) (i:ce w v s) (hs:s.pose.ok 2) (gs:s.pose.good) (hS:S.length≤64) (r0:0≤s.tm) (r1:s.tm≤1099511627776) (hq:plN S s.tm<S.length) (y:St) (hy:S[plN S s.tm]? =some y) (ky:y.pose.ok 2) (gy:y.pose.good) (ey:y.tm≠s.tm) (ho:¬y.tm<s.tm) (z:St) (hz:S[plN S s.tm - 1]? =some z) (kz:z.pose.ok 2) (gz:z.pose.good) (hp:0<plN S s.tm) (oz:¬opp z.pose s.pose) (oy:¬opp s.pose y.pose) (hl:S.length=64):
  Calls Tryz.prog 14 (.pointer (some ⟨g,0,none⟩)::[v]).toArray w fun e w'=>e= .returned (.int .i64 0)∧TrkM 79 w g sl ((aJ S (plN S s.tm) s).drop 1) w':=by
 have hle:=a9 S s.tm
 have hin:=bi (s:=s) hle
 have hdr:((aJ S (plN S s.tm) s).drop 1).length=(aJ S (plN S s.tm) s).length - 1:=List.length_drop ..
 have ht1:(S.take (plN S s.tm)).length=plN S s.tm:=by rw[List.length_take];omega
 have ht2:(S.take (plN S s.tm)++ [s]).length=plN S s.tm+1:=by rw[List.length_append,ht1];rfl
 refine(aG (ρ:=frs (dy s y z)++([.rowB true sl stT S.length (az S),.val (.int .i64 s.tm),.val (.int .i64 ((plN S s.tm:Nat):Int)),.val (.int .i64 (S.length:Int)),.plc stT y.qs,.val (.int .i64 y.tm),.val (.int .i64 (((plN S s.tm:Nat):Int) - 1)),.plc stT z.qs,.plc stT (frs z.pose.cs),.plc stT (frs y.pose.cs),.ownr stT 22 S.length (az S),.row stT 1 s.qs,.ownr stT 22 (aJ S (plN S s.tm) s).length (az (aJ S (plN S s.tm) s)),.val (.int .i64 ((aJ S (plN S s.tm) s).length:Int)),.row stT ((aJ S (plN S s.tm) s).drop 1).length (az ((aJ S (plN S s.tm) s).drop 1)),.ownr stT 22 ((aJ S (plN S s.tm) s).drop 1).length (az ((aJ S (plN S s.tm) s).drop 1))]:List Vp)) (w:=w) (fuel:=300) (m:=63) (S':=(aJ S (plN S s.tm) s).drop 1) (args:=[.one (.ptr 0 0),.agg (.ref 64::bd [0,1,2,3,4,5,6])]) (vs:=[.pointer (some ⟨g,0,none⟩),v]) (r:=.v (.one (.i .i64 0))) (l:=.own 1 78) (lo:=[]) (obs:=[]) h
  (af (cN (ka:=[0,1,2,3,4,5,6]) (a:=s.pose) ⟨rfl,rfl,rfl,rfl,rfl,rfl,rfl,trivial⟩ (hs.mono (by decide)) gs) (af (ma (ka:=[14,15,16,17,18,19,20]) (a:=z.pose) (kb:=[0,1,2,3,4,5,6]) (b:=s.pose) ⟨rfl,rfl,rfl,rfl,rfl,rfl,rfl,trivial⟩ ⟨rfl,rfl,rfl,rfl,rfl,rfl,rfl,trivial⟩ (kz.mono (by decide)) (hs.mono (by decide)) gz gs oz) (af (ma (ka:=[0,1,2,3,4,5,6]) (a:=s.pose) (kb:=[7,8,9,10,11,12,13]) (b:=y.pose) ⟨rfl,rfl,rfl,rfl,rfl,rfl,rfl,trivial⟩ ⟨rfl,rfl,rfl,rfl,rfl,rfl,rfl,trivial⟩ (hs.mono (by decide)) (ky.mono (by decide)) gs gy oy) (af (jw (n:=64) (ks:=[0,1,2,3,4,5,6]) (s:=s) rfl ⟨rfl,rfl,rfl,rfl,rfl,rfl,rfl,trivial⟩ (hs.mono (by decide))) ai))))
  (ae (bK (y:=0) (o:=0) (t:=39) ⟨_,Tryz.underlying39⟩) (ae (aw (t:=3) (ah (n:=64) rfl) (aF (c:=0)) (aK (by omega))) (ae (aw (t:=3) (ah (n:=64) rfl) (aF (c:=1099511627776)) (aQ (by omega))) (ae (cJ (u:=0) (m:=63) (S:=S) (a:=s.tm) (n:=65) (r:=.one .sl0) rfl (ah (n:=64) rfl) rfl (by omega)) (ae (bW 63 66 rfl rfl) (ae (aw (t:=3) (ah (n:=65) rfl) (ah (n:=66) rfl) (aL (by omega))) (ae (iaB (n:=63) (m:=67) rfl rfl (aU (ah (n:=65) rfl) (by omega)) hy) (ae (fa0 y 67 rfl) (ae (ldt y 67 68 rfl rfl) (ae (aw (t:=3) (ah (n:=68) rfl) (ah (n:=64) rfl) (a8 (by omega))) (ae (aw (t:=3) (ah (n:=65) rfl) (aF (c:=0)) (bm (by omega))) (ae (bQ (m:=69) (t:=3) (ah (n:=65) rfl) (aF (c:=1)) rfl rfl (by omega) (by omega)) (ae (iaB (n:=63) (m:=70) rfl rfl (aU (ah (n:=69) rfl) (by omega)) hz) (ae (fa1 z 70 71 rfl rfl) (ae (ldp z 71 [14,15,16,17,18,19,20] rfl ⟨rfl,rfl,rfl,rfl,rfl,rfl,rfl,trivial⟩) (ae (fa1 y 67 72 rfl rfl) (ae (ldp y 72 [7,8,9,10,11,12,13] rfl ⟨rfl,rfl,rfl,rfl,rfl,rfl,rfl,trivial⟩) (ae (dk (k:=0) (m:=73) (S:=S) (r:=.one .sl0) (fq (n:=63) rfl) rfl (by omega)) (ae (gH (n:=64) (ks:=[0,1,2,3,4,5,6]) (m:=74) (s:=s) rfl ⟨rfl,rfl,rfl,rfl,rfl,rfl,rfl,trivial⟩ rfl) (ae (ee (k:=0) (n:=73) (xn:=74) (i:=plN S s.tm) (s:=s) (m:=75) (r:=.one .sl0) rfl rfl (aU (ah (n:=65) rfl) (by omega)) rfl (by omega) (by omega)) (ae (eD (j:=0) (n:=75) (t:=22) ⟨_,Tryz.underlying22⟩ rfl (l:=.ref 76) (fun _ _=>aH rfl aE)) (ae (aw (t:=3) (ah (n:=76) rfl) (aF (c:=64)) (bm (by omega))) (ae (g9 (j:=0) (n:=75) (m:=77) (k:=1) (t:=22) Tryz.underlying22 (by kernel_rfl) rfl (by rfl) rfl (aU (aF (c:=1)) (by omega)) (by omega)) (ae (dk (k:=1) (m:=78) (S:=((aJ S (plN S s.tm) s).drop 1)) (r:=.one .sl0) (rl_o (j:=0) (n:=77) rfl) rfl (by omega)) (aj))))))))))))))))))))))))) Tryz.func14 rfl (by kernel_rfl) aC ⟨bE,⟨(bc (n:=64) (ks:=[0,1,2,3,4,5,6]) (s:=s) rfl ⟨rfl,rfl,rfl,rfl,rfl,rfl,rfl,trivial⟩).2 i,trivial⟩⟩ (l8 rfl)).mono ?_
 rintro e w' ⟨v,B',rfl,h1,h2,h3⟩
 have e1:v= .int .i64 0:=h1
 subst e1
 exact⟨rfl,h2⟩
end Go.Proofs.YtfhinmdhjlmikaaGreat
namespace Go.Proofs.YtfhinmdhjlmikaaGreat
set_option linter.unusedSimpArgs false
set_option linter.unusedVariables false
set_option maxRecDepth 100000
open Go.RowKit
/-- Rows of fractions whose numbers may have leading zeros. -/
def bo:List Nat→List Leaf
 | []=>[]
 | n::ns=>.ref n::.ref (n+1)::.ref (n+2)::bo ns
def cP (ns:List Nat):SV:=.agg (bo ns)
def AtR (ρ:Rho):List Nat→List Rq→Prop
 | [],[]=>True
 | n::ns,r::rs=>(ρ[n]? =some (.val (.bool r.s))∧ρ[n+1]? =some (.dig r.L r.p)∧ρ[n+2]? =some (.dig r.N r.q))∧AtR ρ ns rs
 | _,_=>False
/-- A fraction in valid form. -/
def Rq.vld (r:Rq):Bool:=decide (nl r.p=r.L∧nl r.q=r.N) && (Fq.mk r.s r.p r.q).valid
section
variable {ρ:Rho} {xs:List Fq} {ys:Rho} {n m k:Nat} {u v:Int} {l:Leaf} {t:TypeId} {B:Blk} {w:World} {r:Rq}
theorem gk:∀ {ns:List Nat} {rs:List Rq} {cs:List Value},AtR ρ ns rs→(aO ρ B w (bo ns) cs↔bR w rs cs)
 | [],[],cs,_=>by
  constructor
  ·intro h;match cs,h with | [],_=>rfl
  ·intro h;have h:cs=[]:=h;subst h;trivial
 | n::ns,r::rs,cs,h=>by
  obtain⟨⟨h1,h2,h3⟩,h4⟩:=h
  have ih:=fun cs=>gk (ns:=ns) (rs:=rs) (cs:=cs) h4
  constructor
  ·intro hl
   match cs,hl with
   | u1::u2::u3::cs',hl=>
    obtain⟨g1,g2,g3,g4⟩:=hl
    have e1:=(leafB h1).1 g1
    have e2:=(iX h2).1 g2
    have e3:=(iX h3).1 g3
    obtain⟨a,c,rfl⟩:=jN e2
    obtain⟨b,d,rfl⟩:=jN e3
    subst e1
    exact⟨a,c,b,d,cs',rfl,e2,e3,(ih cs').1 g4⟩
   | [],hl=>exact hl.elim
   | [_],hl=>exact hl.2.elim
   | [_,_],hl=>exact hl.2.2.elim
  ·rintro⟨a,c,b,d,cs',rfl,i1,i2,i3⟩
   exact⟨(leafB h1).2 rfl,(iX h2).2 i1,(iX h3).2 i2,(ih cs').2 i3⟩
 | [],_::_,_,h=>h.elim
 | _::_,[],_,h=>h.elim
theorem aM {ns:List Nat} {rs:List Rq} {x:Value} (h:AtR ρ ns rs):(cP ns).holds ρ B w x↔IsL w x rs:=by
 constructor
 ·rintro⟨cs,rfl,h1⟩;exact⟨cs,rfl,(gk h).1 h1⟩
 ·rintro⟨cs,rfl,h1⟩;exact⟨cs,rfl,(gk h).2 h1⟩
theorem isL_FR {x:Value} (h:IsL w x [r]):rg w x r.s r.L r.p r.N r.q:=by
 obtain⟨cs,rfl,a,c,b,d,cs',rfl,i1,i2,e⟩:=h
 have e:cs'=[]:=e
 subst e
 exact⟨a,c,b,d,rfl,i1,i2⟩
theorem du (h:r.vld=true):r=(Fq.mk r.s r.p r.q).raw∧(Fq.mk r.s r.p r.q).valid=true:=by
 unfold Rq.vld at h
 simp only[Bool.and_eq_true,decide_eq_true_eq]at h
 obtain⟨⟨h1,h2⟩,h3⟩:=h
 refine⟨?_,h3⟩
 obtain⟨s,L,p,N,q⟩:=r
 simp only at h1 h2
 subst h1;subst h2;rfl
theorem zC (x:Value) (w:World) (h:IsL w x [r]) (hL:r.L≤1000000) (hN:r.N≤1000000):Calls Tryz.prog 102 #[x] w fun e w'=>bH w (.bool r.vld) e w':=by
 have hf:=isL_FR h
 by_cases hc:nl r.p=r.L∧nl r.q=r.N
 ·have e:r.vld=(Fq.mk r.s r.p r.q).valid:=by unfold Rq.vld;simp[hc]
  rw[e]
  exact tu x ⟨r.s,r.p,r.q⟩ w (hf.isQ hc.1 hc.2) (by show nl r.p≤_;omega) (by show nl r.q≤_;omega)
 ·have e:r.vld=false:=by unfold Rq.vld;simp[hc]
  rw[e]
  exact yW x r.s r.L r.p r.N r.q w hf hL hN hc
theorem zD (x:Value) (w:World) (h:IsL w x [r]) (hL:r.L≤1000000) (hN:r.N≤1000000):Calls Tryz.prog 75 #[x] w fun e w'=>bH w (.bool r.vld) e w':=by
 have hf:=isL_FR h
 by_cases hc:nl r.p=r.L∧nl r.q=r.N
 ·have e:r.vld=(Fq.mk r.s r.p r.q).valid:=by unfold Rq.vld;simp[hc]
  rw[e]
  exact tv x ⟨r.s,r.p,r.q⟩ w (hf.isQ hc.1 hc.2) (by show nl r.p≤_;omega) (by show nl r.q≤_;omega)
 ·have e:r.vld=false:=by unfold Rq.vld;simp[hc]
  rw[e]
  exact yX x r.s r.L r.p r.N r.q w hf hL hN hc
theorem instX {f:FuncId} {b d:Bool} (hen:jh f) (hc:∀x w,IsL w x [r]→Calls Tryz.prog f #[x] w (fun e w'=>bH w (.bool b) e w')) (hr:AtR (frs xs++ys) [n] [r]) (h:b=d):OkI xs ys ⟨f,[cP [n]],.v (.one (.b d))⟩:=
 ⟨hen,fun B w vs hB hv=>by
  match vs,hv with
  | [va],hv=>
   refine(hc va w ((aM hr).1 hv.1)).mono ?_
   rintro e w' ⟨rfl,h2⟩
   exact⟨_,rfl,by subst h;rfl,h2⟩⟩
theorem bT {d:Bool} (hr:AtR (frs xs++ys) [n] [r]) (h:r.vld=d) (hL:r.L≤1000000) (hN:r.N≤1000000):OkI xs ys ⟨102,[cP [n]],.v (.one (.b d))⟩:=
 instX (aA Tryz.func102 rfl rfl) (fun x w hx=>zC x w hx hL hN) hr h
theorem bU {d:Bool} (hr:AtR (frs xs++ys) [n] [r]) (h:r.vld=d) (hL:r.L≤1000000) (hN:r.N≤1000000):OkI xs ys ⟨75,[cP [n]],.v (.one (.b d))⟩:=
 instX (aA Tryz.func75 rfl rfl) (fun x w hx=>zD x w hx hL hN) hr h
end
theorem jx {r:Rq} (h:r.vld=true):nl r.p=r.L∧nl r.q=r.N:=by
 unfold Rq.vld at h
 simp only[Bool.and_eq_true,decide_eq_true_eq]at h
 exact h.1
/-- No more than four digits; and valid. -/
def Rq.sh (r:Rq):Bool:=decide (r.L≤4) && decide (r.N≤4)
def Rq.sm (r:Rq):Bool:=r.sh && r.vld
end Go.Proofs.YtfhinmdhjlmikaaGreat
