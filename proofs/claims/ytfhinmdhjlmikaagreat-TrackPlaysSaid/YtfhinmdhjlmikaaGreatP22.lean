/- Tracks: awake, which lists agree. Tracks: instances of Of, List, Span, Len, Drop, fits. Tracks: rows of operations, and what they make of a track. -/
import Derived.Test.YtfhinmdhjlmikaaGreatP21
namespace Go.Proofs.YtfhinmdhjlmikaaGreat
set_option linter.unusedSimpArgs false
set_option linter.unusedVariables false
set_option maxRecDepth 100000
open Go.RowKit
def dz (a b c:Int):Pq:=⟨⟨Fq.ofInt a,Fq.ofInt 0,Fq.ofInt 0,Fq.ofInt b⟩,Vq.of c 0 0⟩
def tu1:St:=⟨10,dz 1 0 0⟩
def tu2:St:=⟨20,dz 0 1 0⟩
def tu3:St:=⟨20,dz 1 1 4⟩
def tu4:St:=⟨20,dz 1 0 4⟩
theorem me {a b c:Int} (la: -9223372036854775808≤a) (ra:a<9223372036854775808) (lb: -9223372036854775808≤b) (rb:b<9223372036854775808) (lc: -9223372036854775808≤c) (rc:c<9223372036854775808):(dz a b c).ok 2:=
 ⟨⟨bC la ra,bC (by decide) (by decide),bC (by decide) (by decide),bC lb rb⟩,vG lc rc (by decide) (by decide) (by decide) (by decide)⟩
theorem tu1_ok:tu1.pose.ok 2:=me (by decide) (by decide) (by decide) (by decide) (by decide) (by decide)
theorem tu2_ok:tu2.pose.ok 2:=me (by decide) (by decide) (by decide) (by decide) (by decide) (by decide)
theorem tu3_ok:tu3.pose.ok 2:=me (by decide) (by decide) (by decide) (by decide) (by decide) (by decide)
theorem tu4_ok:tu4.pose.ok 2:=me (by decide) (by decide) (by decide) (by decide) (by decide) (by decide)
theorem iT {a b c:Int} (h:(dz a b c).rot.first=Fq.ofInt 1):(dz a b c).good:=⟨nV ⟨aW _,aW _,aW _,aW _⟩ h,Vq.good.of _ _ _⟩
theorem ui:tu1.pose.good:=iT (by rfl)
theorem tu2_good:tu2.pose.good:=iT (by rfl)
theorem uj:tu3.pose.good:=iT (by rfl)
theorem tu4_good:tu4.pose.good:=iT (by rfl)
theorem add1:iZ [] tu1=([tu1],0):=by
 unfold iZ
 rw[if_neg (by simp[tu1]),if_neg (fun⟨y,hy,_⟩=>by simp[plN]at hy),if_neg (fun⟨y,hy,_⟩=>by simp[plN]at hy),if_neg (fun h=>by
  rcases h with⟨z,h,_⟩ | ⟨y,hy,_⟩
  ·simp[plN]at h
  ·simp[plN]at hy),if_pos (by simp)]
 rfl
theorem pl1:plN [tu1] 20=1:=by simp[plN,tu1]
theorem pl3:plN [tu1,tu3] 20=1:=by simp[plN,tu1,tu3]
theorem add2:iZ [tu1] tu2=([tu1],21):=by
 unfold iZ
 rw[if_neg (by simp[tu2]),show plN [tu1] tu2.tm=1 from pl1,if_neg (fun⟨y,hy,_⟩=>by simp at hy),if_neg (fun⟨y,hy,_⟩=>by simp at hy),if_pos (.inl ⟨tu1,by omega,rfl,by show((dz 1 0 0).rot.inv.mul (dz 0 1 0).rot).w.p=0;decide⟩)]
theorem add3:iZ [tu1] tu3=([tu1,tu3],0):=by
 unfold iZ
 rw[if_neg (by simp[tu3]),show plN [tu1] tu3.tm=1 from pl1,if_neg (fun⟨y,hy,_⟩=>by simp at hy),if_neg (fun⟨y,hy,_⟩=>by simp at hy),if_neg (fun h=>by
  rcases h with⟨z,_,hz,ho⟩ | ⟨y,hy,_⟩
  ·simp at hz;subst hz
   exact absurd ho (by show¬((dz 1 0 0).rot.inv.mul (dz 1 1 4).rot).w.p=0;decide)
  ·simp at hy),if_pos (by simp)]
 rfl
theorem add4:iZ [tu1,tu3] tu4=([tu1,tu3],7):=by
 unfold iZ
 rw[if_neg (by simp[tu4]),show plN [tu1,tu3] tu4.tm=1 from pl3,if_neg (fun⟨y,hy,_,e⟩=>by
  simp at hy;subst hy
  exact absurd (congrArg (fun p:Pq=>p.rot.z.p) e) (by show¬(dz 1 1 4).rot.z.p=(dz 1 0 4).rot.z.p;decide)),if_pos ⟨tu3,rfl,rfl⟩]
theorem gS0:GoodS []:=GoodS.nil
theorem gS1:GoodS [tu1]:=by have:=mS GoodS.nil tu1_ok ui;rw[add1]at this;exact this
theorem gS3:GoodS [tu1,tu3]:=by have:=mS gS1 tu3_ok uj;rw[add3]at this;exact this
theorem sa:Road [tu1,tu3] 15 tu1 tu3 0:=.M tu1 rfl (by decide) tu3 rfl (by decide) (by decide) tu3 rfl (by decide) (by decide) (by decide) (by decide) tu1 rfl
theorem road21:Road [tu1,tu3] 21 zst zst 17:=.O2 tu1 rfl (by decide) tu3 rfl (by decide) (by decide)
theorem aw_half:(atP tu1 tu3 0 15).rot.z=Fq.ratio 1 2:=by
 unfold atP
 rw[if_neg (by decide),if_neg (by decide)]
 rfl
theorem aw_pos:(atP tu1 tu3 0 15).pos=Vq.of 2 0 0:=by
 unfold atP
 rw[if_neg (by decide),if_neg (by decide)]
 rfl
def pp:List Fq:=[(Fq.ofInt 0)]
theorem xa (w:World):
  Calls Tryz.prog 39 #[.int .i64 (0),.int .i64 (0),.int .i64 (0)] w fun e w'=>ei w (Vq.of 0 0 0) e w':=by
 refine(cRn (ρ:=frs (pp)++([]:List Vp)) (args:=[.one (.i .i64 0),.one (.i .i64 0),.one (.i .i64 0)]) (vs:=[.int .i64 (0),.int .i64 (0),.int .i64 (0)]) (r:=.v (row [0,0,0]))
  (af (dK (k:=0) rfl (by decide) (by decide)) ai)
  aj Tryz.func39 (by kernel_rfl) ⟨rfl,⟨rfl,⟨rfl,trivial⟩⟩⟩).mono ?_
 rintro e w' ⟨v,rfl,h1,h2⟩
 exact⟨v,rfl,(ag (xs:=pp) (ks:=[0,0,0]) (vs:=[(Fq.ofInt 0),(Fq.ofInt 0),(Fq.ofInt 0)]) ⟨rfl,rfl,rfl,trivial⟩).1 h1,h2⟩
theorem pq {xs:List Fq} {ys:Rho} {kr:List Nat} (ar:AtL xs kr [(Vq.of 0 0 0).x,(Vq.of 0 0 0).y,(Vq.of 0 0 0).z]):OkI xs ys ⟨39,[.one (.i .i64 0),.one (.i .i64 0),.one (.i .i64 0)],.v (row kr)⟩:=
 ⟨aA Tryz.func39 rfl rfl,fun B w vs hB h=>by
  match vs,h with
  | [vx,vy,vz],h=>
   have ex:vx= .int .i64 (0):=h.1
   subst ex
   have ey:vy= .int .i64 (0):=h.2.1
   subst ey
   have ez:vz= .int .i64 (0):=h.2.2.1
   subst ez
   refine(xa w).mono ?_
   rintro e w' ⟨v,rfl,h1,h2⟩
   exact⟨v,rfl,(ag ar).2 h1,h2⟩⟩
def pr:List Fq:=[(Fq.ofInt 4),(Fq.ofInt 0)]
theorem xb (w:World):
  Calls Tryz.prog 39 #[.int .i64 (4),.int .i64 (0),.int .i64 (0)] w fun e w'=>ei w (Vq.of 4 0 0) e w':=by
 refine(cRn (ρ:=frs (pr)++([]:List Vp)) (args:=[.one (.i .i64 4),.one (.i .i64 0),.one (.i .i64 0)]) (vs:=[.int .i64 (4),.int .i64 (0),.int .i64 (0)]) (r:=.v (row [0,1,1]))
  (af (dK (k:=0) rfl (by decide) (by decide)) (af (dK (k:=1) rfl (by decide) (by decide)) ai))
  aj Tryz.func39 (by kernel_rfl) ⟨rfl,⟨rfl,⟨rfl,trivial⟩⟩⟩).mono ?_
 rintro e w' ⟨v,rfl,h1,h2⟩
 exact⟨v,rfl,(ag (xs:=pr) (ks:=[0,1,1]) (vs:=[(Fq.ofInt 4),(Fq.ofInt 0),(Fq.ofInt 0)]) ⟨rfl,rfl,rfl,trivial⟩).1 h1,h2⟩
theorem pt {xs:List Fq} {ys:Rho} {kr:List Nat} (ar:AtL xs kr [(Vq.of 4 0 0).x,(Vq.of 4 0 0).y,(Vq.of 4 0 0).z]):OkI xs ys ⟨39,[.one (.i .i64 4),.one (.i .i64 0),.one (.i .i64 0)],.v (row kr)⟩:=
 ⟨aA Tryz.func39 rfl rfl,fun B w vs hB h=>by
  match vs,h with
  | [vx,vy,vz],h=>
   have ex:vx= .int .i64 (4):=h.1
   subst ex
   have ey:vy= .int .i64 (0):=h.2.1
   subst ey
   have ez:vz= .int .i64 (0):=h.2.2.1
   subst ez
   refine(xb w).mono ?_
   rintro e w' ⟨v,rfl,h1,h2⟩
   exact⟨v,rfl,(ag ar).2 h1,h2⟩⟩
def pu:List Fq:=[(Fq.ofInt 2),(Fq.ofInt 0)]
theorem xc (w:World):
  Calls Tryz.prog 39 #[.int .i64 (2),.int .i64 (0),.int .i64 (0)] w fun e w'=>ei w (Vq.of 2 0 0) e w':=by
 refine(cRn (ρ:=frs (pu)++([]:List Vp)) (args:=[.one (.i .i64 2),.one (.i .i64 0),.one (.i .i64 0)]) (vs:=[.int .i64 (2),.int .i64 (0),.int .i64 (0)]) (r:=.v (row [0,1,1]))
  (af (dK (k:=0) rfl (by decide) (by decide)) (af (dK (k:=1) rfl (by decide) (by decide)) ai))
  aj Tryz.func39 (by kernel_rfl) ⟨rfl,⟨rfl,⟨rfl,trivial⟩⟩⟩).mono ?_
 rintro e w' ⟨v,rfl,h1,h2⟩
 exact⟨v,rfl,(ag (xs:=pu) (ks:=[0,1,1]) (vs:=[(Fq.ofInt 2),(Fq.ofInt 0),(Fq.ofInt 0)]) ⟨rfl,rfl,rfl,trivial⟩).1 h1,h2⟩
theorem xd {xs:List Fq} {ys:Rho} {kr:List Nat} (ar:AtL xs kr [(Vq.of 2 0 0).x,(Vq.of 2 0 0).y,(Vq.of 2 0 0).z]):OkI xs ys ⟨39,[.one (.i .i64 2),.one (.i .i64 0),.one (.i .i64 0)],.v (row kr)⟩:=
 ⟨aA Tryz.func39 rfl rfl,fun B w vs hB h=>by
  match vs,h with
  | [vx,vy,vz],h=>
   have ex:vx= .int .i64 (2):=h.1
   subst ex
   have ey:vy= .int .i64 (0):=h.2.1
   subst ey
   have ez:vz= .int .i64 (0):=h.2.2.1
   subst ez
   refine(xc w).mono ?_
   rintro e w' ⟨v,rfl,h1,h2⟩
   exact⟨v,rfl,(ag ar).2 h1,h2⟩⟩
def yj:List Fq:=[(Fq.ofInt 1),(Fq.ofInt 0),(Vq.of 0 0 0).x,(Vq.of 0 0 0).y,(Vq.of 0 0 0).z]
theorem q_tu100 (w:World):
  Calls Tryz.prog 36 #[.int .i64 (1),.int .i64 (0),.int .i64 (0)] w fun e w'=>tF w (dz 1 0 0) e w':=by
 refine(cRn (ρ:=frs (yj)++([]:List Vp)) (args:=[.one (.i .i64 1),.one (.i .i64 0),.one (.i .i64 0)]) (vs:=[.int .i64 (1),.int .i64 (0),.int .i64 (0)]) (r:=.v (row [0,1,1,1,2,3,4]))
  (af (dK (k:=0) rfl (by decide) (by decide)) (af (dK (k:=1) rfl (by decide) (by decide)) (af (pq (kr:=[2,3,4]) ⟨rfl,rfl,rfl,trivial⟩) ai)))
  aj Tryz.func36 (by kernel_rfl) ⟨rfl,⟨rfl,⟨rfl,trivial⟩⟩⟩).mono ?_
 rintro e w' ⟨v,rfl,h1,h2⟩
 exact⟨v,rfl,(ag (xs:=yj) (ks:=[0,1,1,1,2,3,4]) (vs:=[(Fq.ofInt 1),(Fq.ofInt 0),(Fq.ofInt 0),(Fq.ofInt 0),(Vq.of 0 0 0).x,(Vq.of 0 0 0).y,(Vq.of 0 0 0).z]) ⟨rfl,rfl,rfl,rfl,rfl,rfl,rfl,trivial⟩).1 h1,h2⟩
theorem I_tu100 {xs:List Fq} {ys:Rho} {kr:List Nat} (ar:AtL xs kr (dz 1 0 0).cs):OkI xs ys ⟨36,[.one (.i .i64 1),.one (.i .i64 0),.one (.i .i64 0)],.v (row kr)⟩:=
 ⟨aA Tryz.func36 rfl rfl,fun B w vs hB h=>by
  match vs,h with
  | [vx,vy,vz],h=>
   have ex:vx= .int .i64 (1):=h.1
   subst ex
   have ey:vy= .int .i64 (0):=h.2.1
   subst ey
   have ez:vz= .int .i64 (0):=h.2.2.1
   subst ez
   refine(q_tu100 w).mono ?_
   rintro e w' ⟨v,rfl,h1,h2⟩
   exact⟨v,rfl,(ag ar).2 h1,h2⟩⟩
def yk:List Fq:=[(Fq.ofInt 0),(Fq.ofInt 1),(Vq.of 0 0 0).x,(Vq.of 0 0 0).y,(Vq.of 0 0 0).z]
theorem q_tu010 (w:World):
  Calls Tryz.prog 36 #[.int .i64 (0),.int .i64 (1),.int .i64 (0)] w fun e w'=>tF w (dz 0 1 0) e w':=by
 refine(cRn (ρ:=frs (yk)++([]:List Vp)) (args:=[.one (.i .i64 0),.one (.i .i64 1),.one (.i .i64 0)]) (vs:=[.int .i64 (0),.int .i64 (1),.int .i64 (0)]) (r:=.v (row [0,0,0,1,2,3,4]))
  (af (dK (k:=0) rfl (by decide) (by decide)) (af (dK (k:=1) rfl (by decide) (by decide)) (af (pq (kr:=[2,3,4]) ⟨rfl,rfl,rfl,trivial⟩) ai)))
  aj Tryz.func36 (by kernel_rfl) ⟨rfl,⟨rfl,⟨rfl,trivial⟩⟩⟩).mono ?_
 rintro e w' ⟨v,rfl,h1,h2⟩
 exact⟨v,rfl,(ag (xs:=yk) (ks:=[0,0,0,1,2,3,4]) (vs:=[(Fq.ofInt 0),(Fq.ofInt 0),(Fq.ofInt 0),(Fq.ofInt 1),(Vq.of 0 0 0).x,(Vq.of 0 0 0).y,(Vq.of 0 0 0).z]) ⟨rfl,rfl,rfl,rfl,rfl,rfl,rfl,trivial⟩).1 h1,h2⟩
theorem I_tu010 {xs:List Fq} {ys:Rho} {kr:List Nat} (ar:AtL xs kr (dz 0 1 0).cs):OkI xs ys ⟨36,[.one (.i .i64 0),.one (.i .i64 1),.one (.i .i64 0)],.v (row kr)⟩:=
 ⟨aA Tryz.func36 rfl rfl,fun B w vs hB h=>by
  match vs,h with
  | [vx,vy,vz],h=>
   have ex:vx= .int .i64 (0):=h.1
   subst ex
   have ey:vy= .int .i64 (1):=h.2.1
   subst ey
   have ez:vz= .int .i64 (0):=h.2.2.1
   subst ez
   refine(q_tu010 w).mono ?_
   rintro e w' ⟨v,rfl,h1,h2⟩
   exact⟨v,rfl,(ag ar).2 h1,h2⟩⟩
def yl:List Fq:=[(Fq.ofInt 1),(Fq.ofInt 0),(Vq.of 4 0 0).x,(Vq.of 4 0 0).y,(Vq.of 4 0 0).z]
theorem q_tu114 (w:World):
  Calls Tryz.prog 36 #[.int .i64 (1),.int .i64 (1),.int .i64 (4)] w fun e w'=>tF w (dz 1 1 4) e w':=by
 refine(cRn (ρ:=frs (yl)++([]:List Vp)) (args:=[.one (.i .i64 1),.one (.i .i64 1),.one (.i .i64 4)]) (vs:=[.int .i64 (1),.int .i64 (1),.int .i64 (4)]) (r:=.v (row [0,1,1,0,2,3,4]))
  (af (dK (k:=0) rfl (by decide) (by decide)) (af (dK (k:=1) rfl (by decide) (by decide)) (af (pt (kr:=[2,3,4]) ⟨rfl,rfl,rfl,trivial⟩) ai)))
  aj Tryz.func36 (by kernel_rfl) ⟨rfl,⟨rfl,⟨rfl,trivial⟩⟩⟩).mono ?_
 rintro e w' ⟨v,rfl,h1,h2⟩
 exact⟨v,rfl,(ag (xs:=yl) (ks:=[0,1,1,0,2,3,4]) (vs:=[(Fq.ofInt 1),(Fq.ofInt 0),(Fq.ofInt 0),(Fq.ofInt 1),(Vq.of 4 0 0).x,(Vq.of 4 0 0).y,(Vq.of 4 0 0).z]) ⟨rfl,rfl,rfl,rfl,rfl,rfl,rfl,trivial⟩).1 h1,h2⟩
theorem I_tu114 {xs:List Fq} {ys:Rho} {kr:List Nat} (ar:AtL xs kr (dz 1 1 4).cs):OkI xs ys ⟨36,[.one (.i .i64 1),.one (.i .i64 1),.one (.i .i64 4)],.v (row kr)⟩:=
 ⟨aA Tryz.func36 rfl rfl,fun B w vs hB h=>by
  match vs,h with
  | [vx,vy,vz],h=>
   have ex:vx= .int .i64 (1):=h.1
   subst ex
   have ey:vy= .int .i64 (1):=h.2.1
   subst ey
   have ez:vz= .int .i64 (4):=h.2.2.1
   subst ez
   refine(q_tu114 w).mono ?_
   rintro e w' ⟨v,rfl,h1,h2⟩
   exact⟨v,rfl,(ag ar).2 h1,h2⟩⟩
def ym:List Fq:=[(Fq.ofInt 1),(Fq.ofInt 0),(Vq.of 4 0 0).x,(Vq.of 4 0 0).y,(Vq.of 4 0 0).z]
theorem q_tu104 (w:World):
  Calls Tryz.prog 36 #[.int .i64 (1),.int .i64 (0),.int .i64 (4)] w fun e w'=>tF w (dz 1 0 4) e w':=by
 refine(cRn (ρ:=frs (ym)++([]:List Vp)) (args:=[.one (.i .i64 1),.one (.i .i64 0),.one (.i .i64 4)]) (vs:=[.int .i64 (1),.int .i64 (0),.int .i64 (4)]) (r:=.v (row [0,1,1,1,2,3,4]))
  (af (dK (k:=0) rfl (by decide) (by decide)) (af (dK (k:=1) rfl (by decide) (by decide)) (af (pt (kr:=[2,3,4]) ⟨rfl,rfl,rfl,trivial⟩) ai)))
  aj Tryz.func36 (by kernel_rfl) ⟨rfl,⟨rfl,⟨rfl,trivial⟩⟩⟩).mono ?_
 rintro e w' ⟨v,rfl,h1,h2⟩
 exact⟨v,rfl,(ag (xs:=ym) (ks:=[0,1,1,1,2,3,4]) (vs:=[(Fq.ofInt 1),(Fq.ofInt 0),(Fq.ofInt 0),(Fq.ofInt 0),(Vq.of 4 0 0).x,(Vq.of 4 0 0).y,(Vq.of 4 0 0).z]) ⟨rfl,rfl,rfl,rfl,rfl,rfl,rfl,trivial⟩).1 h1,h2⟩
theorem I_tu104 {xs:List Fq} {ys:Rho} {kr:List Nat} (ar:AtL xs kr (dz 1 0 4).cs):OkI xs ys ⟨36,[.one (.i .i64 1),.one (.i .i64 0),.one (.i .i64 4)],.v (row kr)⟩:=
 ⟨aA Tryz.func36 rfl rfl,fun B w vs hB h=>by
  match vs,h with
  | [vx,vy,vz],h=>
   have ex:vx= .int .i64 (1):=h.1
   subst ex
   have ey:vy= .int .i64 (0):=h.2.1
   subst ey
   have ez:vz= .int .i64 (4):=h.2.2.1
   subst ez
   refine(q_tu104 w).mono ?_
   rintro e w' ⟨v,rfl,h1,h2⟩
   exact⟨v,rfl,(ag ar).2 h1,h2⟩⟩
def pw:MS:=cM 42 [(0,.v (.one (.ref 0))),(1,.v (.one (.ref 0))),(5,.v (.one (.i .i64 0)))] []
def px:MS:=cM 42 [(0,.v (.one (.ref 0))),(1,.v (.one (.ref 0)))] []
def jC (S:List St) (v v':Value):List Fq:=[]
theorem q_Same {w:World} (S:List St) (v v':Value) (h1:(Vp.row stT S.length (az S)).p w v) (h1':(Vp.row stT S.length (az S)).p w v') (hl:S.length≤100000) (hk:∀x∈S,x.pose.ok 2):
  Calls Tryz.prog 17 #[v,v'] w fun e w'=>e= .returned (.bool true)∧Below w.heap.size w w':=by
 have hL0:LOb.Ok Tryz.prog (frs (jC S v v')++(([.row stT S.length (az S),.val (.int .i64 (S.length:Int))]:List Vp)++(([]:List Vp)))) (Ent.of w) 42 ⟨bk Tryz.f17 0,pw,.ext 0,px⟩:=by
  refine bx S.length (fun k=>frs (jC S v v')++(([.row stT S.length (az S),.val (.int .i64 (S.length:Int))]:List Vp)++(([.val (.int .i64 ((k:Nat):Int))]:List Vp)))) (fun _=>cM 42 [(0,.v (.one (.ref 0))),(1,.v (.one (.ref 0))),(5,.v (.one (.ref 2)))] []) ?_ ?_ ?_ (by decide) (Nat.zero_le _)
  ·intro a_ w_ h_
   exact MSt.conv (N:=2) (σ:=[(2,.i .i64 0)]) (cmP (by kernel_rfl)) (aD (sgi (n:=2) (u:=0) (v:=((0:Nat):Int)) rfl (aF (c:=0)) (by omega)) aP) (by kernel_rfl) h_ (Nat.zero_le _)
  ·intro k hk0
   obtain⟨x,hx⟩:∃x,S[k]? =some x:=⟨_,List.getElem?_eq_getElem hk0⟩
   refine aV (N:=3) (ρx:=frs (jC S v v')++(([.row stT S.length (az S),.val (.int .i64 (S.length:Int))]:List Vp)++(([.val (.int .i64 ((k:Nat):Int))]:List Vp)++(([.plc stT x.qs,.val (.int .i64 x.tm),.plc stT (frs x.pose.cs),.val (.bool x.pose.rot.w.s),.dig (nl x.pose.rot.w.p) x.pose.rot.w.p,.dig (nl x.pose.rot.w.q) x.pose.rot.w.q,.val (.bool x.pose.rot.x.s),.dig (nl x.pose.rot.x.p) x.pose.rot.x.p,.dig (nl x.pose.rot.x.q) x.pose.rot.x.q,.val (.bool x.pose.rot.y.s),.dig (nl x.pose.rot.y.p) x.pose.rot.y.p,.dig (nl x.pose.rot.y.q) x.pose.rot.y.q,.val (.bool x.pose.rot.z.s),.dig (nl x.pose.rot.z.p) x.pose.rot.z.p,.dig (nl x.pose.rot.z.q) x.pose.rot.z.q,.val (.bool x.pose.pos.x.s),.dig (nl x.pose.pos.x.p) x.pose.pos.x.p,.dig (nl x.pose.pos.x.q) x.pose.pos.x.q,.val (.bool x.pose.pos.y.s),.dig (nl x.pose.pos.y.p) x.pose.pos.y.p,.dig (nl x.pose.pos.y.q) x.pose.pos.y.q,.val (.bool x.pose.pos.z.s),.dig (nl x.pose.pos.z.p) x.pose.pos.z.p,.dig (nl x.pose.pos.z.q) x.pose.pos.z.q,.val (.int .i64 (((k:Nat):Int)+1))]:List Vp))))) (cmX (by kernel_rfl)) (by kernel_rfl) (Nat.zero_le _) ?_
   exact aR (N:=2) (σ:=[(2,.ref 27)]) (lo:=[]) (n:=300) (af (I_rpEqR (ns:=[6,9,12,15,18,21,24]) (ns':=[6,9,12,15,18,21,24]) (s:=x) ⟨⟨rfl,rfl,rfl⟩,⟨rfl,rfl,rfl⟩,⟨rfl,rfl,rfl⟩,⟨rfl,rfl,rfl⟩,⟨rfl,rfl,rfl⟩,⟨rfl,rfl,rfl⟩,⟨rfl,rfl,rfl⟩,trivial⟩ ⟨⟨rfl,rfl,rfl⟩,⟨rfl,rfl,rfl⟩,⟨rfl,rfl,rfl⟩,⟨rfl,rfl,rfl⟩,⟨rfl,rfl,rfl⟩,⟨rfl,rfl,rfl⟩,⟨rfl,rfl,rfl⟩,trivial⟩ (hk x (List.mem_of_getElem? hx))) ai)
    (ae (oO (n:=0) (t:=22) ⟨_,Tryz.underlying22⟩ rfl (l:=.ref 1) (fun _ _=>aH rfl aE)) (ae (aw (t:=3) (ah (n:=2) rfl) (ah (n:=1) rfl) (aL (by omega))) (ae (iaT (n:=0) (m:=3) rfl rfl (aU (ah (n:=2) rfl) (by omega)) hx) (ae (fa0 x 3 rfl) (ae (ldt x 3 4 rfl rfl) (ae (aw (t:=3) (ah (n:=4) rfl) (ah (n:=4) rfl) (cz (by omega))) (ae (fa1 x 3 5 rfl rfl) (ae (ji (n:=5) (t:=33) (ls:=bo [6,9,12,15,18,21,24]) (by kernel_rfl) (by kernel_rfl) rfl (gI (rs:=x.raw.rs) ⟨⟨rfl,rfl,rfl⟩,⟨rfl,rfl,rfl⟩,⟨rfl,rfl,rfl⟩,⟨rfl,rfl,rfl⟩,⟨rfl,rfl,rfl⟩,⟨rfl,rfl,rfl⟩,⟨rfl,rfl,rfl⟩,trivial⟩)) (ae (cS (m:=27) (t:=3) (ah (n:=2) rfl) (aF (c:=1)) rfl rfl (by omega) (by omega)) (aj))))))))))
    (by kernel_rfl) (obs:=[]) (by kernel_rfl) aC (cmP (by kernel_rfl)) (aD (sgi (n:=2) (u:=(((k:Nat):Int)+1)) (v:=((k+1:Nat):Int)) rfl (ah (n:=27) rfl) (by omega)) aP) (Nat.zero_le _)
  ·refine aV (N:=3) (ρx:=frs (jC S v v')++(([.row stT S.length (az S),.val (.int .i64 (S.length:Int))]:List Vp)++(([.val (.int .i64 ((S.length:Nat):Int))]:List Vp)++(([]:List Vp))))) (cmX (by kernel_rfl)) (by kernel_rfl) (Nat.zero_le _) ?_
   exact aR (N:=2) (σ:=[]) (lo:=[]) (n:=300) (ai)
    (ae (oO (n:=0) (t:=22) ⟨_,Tryz.underlying22⟩ rfl (l:=.ref 1) (fun _ _=>aH rfl aE)) (ae (aw (t:=3) (ah (n:=2) rfl) (ah (n:=1) rfl) (aK (by omega))) (aj)))
    (by kernel_rfl) (obs:=[]) (by kernel_rfl) aC (cmP (by kernel_rfl)) aP (Nat.zero_le _)
 refine(bu (ρ:=frs (jC S v v')++(([.row stT S.length (az S),.val (.int .i64 (S.length:Int))]:List Vp)++(([]:List Vp)))) (w:=w) (fuel:=300) (args:=[.one (.ref 0),.one (.ref 0)]) (vs:=[v,v']) (r:=.v (.one (.b true))) (lo:=[some (pw,.ext 0,px)]) (obs:=[⟨bk Tryz.f17 0,pw,.ext 0,px⟩])
  (ai)
  (ae (oO (n:=0) (t:=22) ⟨_,Tryz.underlying22⟩ rfl (l:=.ref 1) (fun _ _=>aH rfl aE)) (ae (aw (t:=3) (ah (n:=1) rfl) (ah (n:=1) rfl) (cz (by omega))) (aj))) (by kernel_rfl) Tryz.func17 (by kernel_rfl) (bI hL0 aC) ⟨jU (m:=0) rfl h1,⟨jU (m:=0) rfl h1',trivial⟩⟩).mono ?_
 rintro e w' ⟨v,rfl,h2,h3⟩
 have e1:v= .bool true:=h2
 subst e1
 exact⟨rfl,h3⟩
noncomputable def xe:List Fq:=((dz 1 0 0).cs++((dz 0 1 0).cs++((dz 1 1 4).cs++((dz 1 0 4).cs++((atP tu1 tu3 0 15).cs++((atP zst zst 17 21).cs++([(Fq.ratio 1 2),(Vq.of 2 0 0).x,(Vq.of 2 0 0).y,(Vq.of 2 0 0).z])))))))
theorem q_tAwake {w:World}:
  Calls Tryz.prog 10 #[] w fun e w'=>e= .returned (.bool true)∧Below w.heap.size w w':=by
 refine(bu (ρ:=frs (xe)++([.row stT ([]:List St).length (az ([]:List St)),.row stT ([tu1]).length (az ([tu1])),.row stT ([tu1,tu3]).length (az ([tu1,tu3]))]:List Vp)) (w:=w) (fuel:=300) (args:=[]) (vs:=[]) (r:=.v (.one (.b true))) (lo:=[]) (obs:=[])
  (af (I_tu100 (kr:=[0,1,2,3,4,5,6]) ⟨rfl,rfl,rfl,rfl,rfl,rfl,rfl,trivial⟩) (af (I_tu010 (kr:=[7,8,9,10,11,12,13]) ⟨rfl,rfl,rfl,rfl,rfl,rfl,rfl,trivial⟩) (af (I_tu114 (kr:=[14,15,16,17,18,19,20]) ⟨rfl,rfl,rfl,rfl,rfl,rfl,rfl,trivial⟩) (af (I_tu104 (kr:=[21,22,23,24,25,26,27]) ⟨rfl,rfl,rfl,rfl,rfl,rfl,rfl,trivial⟩) (af (rO (ir:=42) rfl) (af (bS (i:=31) (j:=42) (l:=.b true) rfl rfl (lb (Fq.same_iff.2 aw_half)) ((r8 gS3 sa).2.rot.z.mono (by decide)).p ((r8 gS3 sa).2.rot.z.mono (by decide)).q ((eF (v:=1) (u:=2) (by decide) (by decide) (by decide) (by decide) (by decide)).mono (by decide)).p ((eF (v:=1) (u:=2) (by decide) (by decide) (by decide) (by decide) (by decide)).mono (by decide)).q) (af (xd (kr:=[43,44,45]) ⟨rfl,rfl,rfl,trivial⟩) (af (o7 (ka:=[32,33,34]) (a:=(atP tu1 tu3 0 15).pos) (kb:=[43,44,45]) (b:=(Vq.of 2 0 0)) ⟨rfl,rfl,rfl,trivial⟩ ⟨rfl,rfl,rfl,trivial⟩ ((r8 gS3 sa).2.pos.mono (by decide)) ((vG (by decide) (by decide) (by decide) (by decide) (by decide) (by decide)).mono (by decide)) aw_pos) ai))))))))
  (ae (I_tNew (u:=0) (k:=0) (m:=138) (r:=.one .sl0) rfl) (ae (bK (y:=0) (o:=0) (t:=39) ⟨_,Tryz.underlying39⟩) (ae (r9 (u:=0) (k:=0) (m:=138) (m':=139) (ks:=[0,1,2,3,4,5,6]) (S:=([]:List St)) (S':=[tu1]) (s:=tu1) (t:=10) (c:=0) (r:=.one .sl0) rfl rfl ⟨rfl,rfl,rfl,rfl,rfl,rfl,rfl,trivial⟩ rfl add1 tu1_ok ui gS0) (ae (r9 (u:=0) (k:=0) (m:=139) (m':=139) (ks:=[7,8,9,10,11,12,13]) (S:=([tu1])) (S':=[tu1]) (s:=tu2) (t:=20) (c:=21) (r:=.one .sl0) rfl rfl ⟨rfl,rfl,rfl,rfl,rfl,rfl,rfl,trivial⟩ rfl add2 tu2_ok tu2_good gS1) (ae (r9 (u:=0) (k:=0) (m:=139) (m':=140) (ks:=[14,15,16,17,18,19,20]) (S:=([tu1])) (S':=[tu1,tu3]) (s:=tu3) (t:=20) (c:=0) (r:=.one .sl0) rfl rfl ⟨rfl,rfl,rfl,rfl,rfl,rfl,rfl,trivial⟩ rfl add3 tu3_ok uj gS1) (ae (r9 (u:=0) (k:=0) (m:=140) (m':=140) (ks:=[21,22,23,24,25,26,27]) (S:=([tu1,tu3])) (S':=[tu1,tu3]) (s:=tu4) (t:=20) (c:=7) (r:=.one .sl0) rfl rfl ⟨rfl,rfl,rfl,rfl,rfl,rfl,rfl,trivial⟩ rfl add4 tu4_ok tu4_good gS3) (ae (I_AtS (u:=0) (l:=.own 0 140) (z:=tu1) (y:=tu3) (c:=0) (a:=15) (lc:=.i .i64 0) (kr:=[28,29,30,31,32,33,34]) (r:=.one .sl0) (fk (m:=140) rfl) (aU (aF (c:=15)) (by omega)) gS3 sa ⟨rfl,rfl,rfl,rfl,rfl,rfl,rfl,trivial⟩ (fun _ _=>rfl)) (ae (I_AtS (u:=0) (l:=.own 0 140) (z:=zst) (y:=zst) (c:=17) (a:=21) (lc:=.i .i64 17) (kr:=[35,36,37,38,39,40,41]) (r:=.one .sl0) (fk (m:=140) rfl) (aU (aF (c:=21)) (by omega)) gS3 road21 ⟨rfl,rfl,rfl,rfl,rfl,rfl,rfl,trivial⟩ (fun _ _=>rfl)) (aj))))))))) (by kernel_rfl) Tryz.func10 (by kernel_rfl) aC trivial).mono ?_
 rintro e w' ⟨v,rfl,h2,h3⟩
 have e1:v= .bool true:=h2
 subst e1
 exact⟨rfl,h3⟩
theorem mf {ρ:Rho}:Inst.Ok Tryz.prog ρ ⟨10,[],.v (.one (.b true))⟩:=
 ⟨aA Tryz.func10 rfl rfl,fun B w vs hB h=>by
  match vs,h with
  | [],_=>
   refine q_tAwake.mono ?_
   rintro e w' ⟨rfl,h2⟩
   exact⟨_,rfl,rfl,h2⟩⟩
end Go.Proofs.YtfhinmdhjlmikaaGreat
namespace Go.Proofs.YtfhinmdhjlmikaaGreat
set_option linter.unusedSimpArgs false
set_option linter.unusedVariables false
set_option maxRecDepth 100000
open Go.RowKit
section
variable {ρ:Rho} {n m m' k r j u:Nat} {T:TypeId} {B:Blk} {w:World} {S S':List St} {f:FuncId} {args xs:List SV} {l:Leaf}
/-- A function that makes a row of what variables hold. -/
theorem uk {s:Vp} {pre:List (Nat×TypeId×List Leaf)} (hen:∀(vs:Array Value) (w:World),(callFunc f vs).run Tryz.prog w= .ok (.enter f vs) w) (hm:ρ[m]? =some s) {r:SV} (hfp:∀w y g,s.fp w y g→y.ownBlock=some g)
  (h:∀B w vs,BOk B w.heap.size→BInj B→(∀q∈pre,nz ρ B w q)→cG ρ B w args vs→Calls Tryz.prog f vs.toArray w (fun e w'=>∃v,e= .returned v∧s.p w' v∧(∀b,v.ownBlock=some b→w.heap.size≤b∧dn w' b)∧Below w.heap.size w w')):
  (OIns.mk (.mut f ⟨[k],pre,[],none,[],[.one (.own k m)]⟩) args r).Ok Tryz.prog ρ:=fun B w vs hv=>by
 refine⟨hen _ _,fun hbok hinj ho hov _ hpre=> ?_⟩
 refine(h B w vs hbok hinj hpre hv).mono ?_
 rintro e w' ⟨v,rfl,hp,hsl,hb⟩
 refine⟨v,⟨B.v,fun l b=>B.o l b∨(l=k∧v.ownBlock=some b)⟩,rfl,⟨s,hm,hp,fun g hg=>.inr ⟨rfl,hfp _ _ _ hg⟩,fun g hg=>.inr ⟨rfl,hg⟩⟩,fun q hq=>(by cases hq),fun q hq=>(by cases hq),fun q hq=>(by cases hq),hb.os,hb.tape,hb.output,fun _ _=>rfl,fun q b hq=>(by cases hq),fun l b hb=>.inl hb,fun l b hb'=> ?_,fun l b hl hb'=> ?_,⟨hinj.v,fun l l' b h1 h2=> ?_,fun x l b h1 h2=> ?_⟩,⟨hb.size,fun b hl _=>hb.block b hl,fun b hX=> ?_⟩⟩
 ·rcases hb' with hb' | ⟨rfl,hb'⟩
  ·exact .inl hb'
  ·exact .inr ⟨by simp,(hsl b hb').1⟩
 ·rcases hb' with hb' | ⟨_,hb'⟩
  ·have h1:=ho l b hb'
   exact h1.blk (hb.block b h1.1) hb.size
  ·exact(hsl b hb').2
 ·rcases h1 with h1 | ⟨e1,h1⟩<;>rcases h2 with h2 | ⟨e2,h2⟩
  ·exact hinj.o _ _ _ h1 h2
  ·have:=hbok b (.inr ⟨l,h1⟩);have:=(hsl b h2).1;omega
  ·have:=hbok b (.inr ⟨l',h2⟩);have:=(hsl b h1).1;omega
  ·rw[e1,e2]
 ·rcases h2 with h2 | ⟨_,h2⟩
  ·exact hinj.vo _ _ _ h1 h2
  ·have:=hbok b (.inl ⟨x,h1⟩);have:=(hsl b h2).1;omega
 ·rcases hX with⟨l,hl,hb'⟩ | ⟨q,hq,_⟩
  ·exact ho l b hb'
  ·cases hq
end
theorem q_ListS {S:List St} {w:World} {g:Nat} {sl:Value} (h:TrkS 79 w g sl S) (hS:GoodS S):Calls Tryz.prog 18 (.pointer (some ⟨g,0,none⟩)::[]).toArray w fun e w'=>∃v,e= .returned v∧(Vp.ownr stT 22 S.length (az S)).p w' v∧(∀b,v.ownBlock=some b→w.heap.size≤b∧dn w' b)∧Below w.heap.size w w':=by
 by_cases h0:S.length=0
 ·exact q_List0 S h hS.len h0
 ·exact q_List1 S h hS.len (fun x hx=>(hS.all x hx).ok) (by omega)
theorem q_rListS {S:List St} {w:World} {g:Nat} {sl:Value} (h:TrkS 86 w g sl S) (hS:GoodS S):Calls Tryz.prog 19 (.pointer (some ⟨g,0,none⟩)::[]).toArray w fun e w'=>∃v,e= .returned v∧(Vp.ownr stT 22 S.length (az S)).p w' v∧(∀b,v.ownBlock=some b→w.heap.size≤b∧dn w' b)∧Below w.heap.size w w':=q_rList S h hS.len
/-- The times of the first and of the last stamp. -/
def cY (S:List St):Int×Int×Bool:=match S[0]?,S[S.length - 1]? with
 | some f,some l=>(f.tm,l.tm,true)
 | _,_=>(0,0,false)
theorem q_SpanS {S:List St} {w:World} {g:Nat} {sl:Value} (h:TrkS 79 w g sl S) (hS:GoodS S):Calls Tryz.prog 20 (.pointer (some ⟨g,0,none⟩)::[]).toArray w fun e w'=>e= .returned (.tuple #[.int .i64 (cY S).1,.int .i64 (cY S).2.1,.bool (cY S).2.2])∧Below w.heap.size w w':=by
 by_cases h0:S.length=0
 ·have e:S=[]:=List.eq_nil_of_length_eq_zero h0
  subst e;exact q_Span0 [] h hS.len rfl
 ·obtain⟨f,hf⟩:∃f,S[0]? =some f:=⟨_,List.getElem?_eq_getElem (by omega)⟩
  obtain⟨l,hl⟩:∃f,S[S.length - 1]? =some f:=⟨_,List.getElem?_eq_getElem (by omega)⟩
  rw[show cY S=(f.tm,l.tm,true)by unfold cY;rw[hf,hl]]
  exact q_Span1 S h hS.len f hf l hl (by omega)
theorem q_rSpanS {S:List St} {w:World} {g:Nat} {sl:Value} (h:TrkS 86 w g sl S) (hS:GoodS S):Calls Tryz.prog 33 (.pointer (some ⟨g,0,none⟩)::[]).toArray w fun e w'=>e= .returned (.tuple #[.int .i64 (cY S).1,.int .i64 (cY S).2.1,.bool (cY S).2.2])∧Below w.heap.size w w':=by
 by_cases h0:S.length=0
 ·have e:S=[]:=List.eq_nil_of_length_eq_zero h0
  subst e;exact q_rSpan0 [] h hS.len rfl
 ·obtain⟨f,hf⟩:∃f,S[0]? =some f:=⟨_,List.getElem?_eq_getElem (by omega)⟩
  obtain⟨l,hl⟩:∃f,S[S.length - 1]? =some f:=⟨_,List.getElem?_eq_getElem (by omega)⟩
  rw[show cY S=(f.tm,l.tm,true)by unfold cY;rw[hf,hl]]
  exact q_rSpan1 S h hS.len f hf l hl (by omega)
theorem q_rDropS {S:List St} {a:Int} {w:World} {g:Nat} {sl:Value} (h:TrkS 86 w g sl S) (hS:GoodS S):Calls Tryz.prog 29 (.pointer (some ⟨g,0,none⟩)::[.int .i64 a]).toArray w fun e w'=>e= .returned (.int .i64 ((plN S (a+1) - 1:Nat):Int))∧TrkM 86 w g sl (S.drop (plN S (a+1) - 1)) w':=q_rDrop S a h hS.len hS.sort
section
variable {ρ:Rho} {n m m' k j u c n' j' s1 s2:Nat} {S:List St} {R:List RSt} {r:SV} {l la lb:Leaf} {M:Nat} {b:Bool} {x:RSt} {a:Int}
theorem leaf_p {s:Vp} {B:Blk} {w:World} {v:Value} (hn:ρ[n]? =some s) (h:(Leaf.ref n).holds ρ B w v):s.p w v:=by
 obtain⟨s',h1,h2,_⟩:=h
 rw[hn]at h1;injection h1 with h1;subst h1;exact h2
theorem I_Same (hn:ρ[n]? =some (.ownr stT 22 S.length (az S))) (hn':ρ[n']? =some (.ownr stT 22 S.length (az S))) (hS:GoodS S):Inst.Ok Tryz.prog ρ ⟨17,[.one (.own j n),.one (.own j' n')],.v (.one (.b true))⟩:=
 ⟨aA Tryz.func17 rfl rfl,fun B w vs hB h=>by
  match vs,h with
  | [v,v'],h=>
   refine(q_Same S v v' (gZ (g7 hn h.1).1) (gZ (g7 hn' h.2.1).1) (by have:=hS.len;omega) (fun x hx=>(hS.all x hx).ok)).mono ?_
   rintro e w' ⟨rfl,h2⟩
   exact⟨_,rfl,rfl,h2⟩⟩
theorem I_tList (hm:ρ[m]? =some (.row stT S.length (az S))) (hm':ρ[m']? =some (.ownr stT 22 S.length (az S))) (hS:GoodS S):(OIns.mk (.mut 18 ⟨[j],[(u,79,[.own k m])],[],none,[],[.one (.own j m')]⟩) [.one (.ptr u 0)] r).Ok Tryz.prog ρ:=
 uk (args:=[.one (.ptr u 0)]) (aA Tryz.func18 rfl rfl) hm' rL (fun B w vs _ hinj hpre hv=>by
  match vs,hv with
  | [v],hv=>
   obtain⟨g,hg,rfl⟩:=hv.1
   obtain⟨sl,ht,_⟩:=rK hinj hg (hpre (u,79,[.own k m]) (List.mem_singleton.2 rfl)) hm
   refine(q_ListS ht hS).mono ?_
   rintro e w' ⟨v,rfl,h1,h2,h3⟩
   exact⟨v,rfl,h1,h2,h3⟩)
theorem sb (tl:go ρ u 79 l S) (hS:GoodS S) (hn:ρ[n]? =some (.val (.int .i64 (S.length:Int)))):(OIns.mk (.mut 25 ⟨[],[(u,79,[l])],[],none,[],[.one (.ref n)]⟩) [.one (.ptr u 0)] r).Ok Tryz.prog ρ:=
 bV (args:=[]) (aA Tryz.func25 rfl rfl) tl (fun B w g sl vs _ ht hv=>by
  match vs,hv with
  | [],hv=>
   refine(q_Len S ht hS.len).mono ?_
   rintro e w' ⟨rfl,h2⟩
   exact⟨_,rfl,fun B' _=>aH hn aE,h2⟩)
theorem I_rtList (hm:ρ[m]? =some (.row stT S.length (az S))) (hm':ρ[m']? =some (.ownr stT 22 S.length (az S))) (hS:GoodS S):(OIns.mk (.mut 19 ⟨[j],[(u,86,[.own k m])],[],none,[],[.one (.own j m')]⟩) [.one (.ptr u 0)] r).Ok Tryz.prog ρ:=
 uk (args:=[.one (.ptr u 0)]) (aA Tryz.func19 rfl rfl) hm' rL (fun B w vs _ hinj hpre hv=>by
  match vs,hv with
  | [v],hv=>
   obtain⟨g,hg,rfl⟩:=hv.1
   obtain⟨sl,ht,_⟩:=rK hinj hg (hpre (u,86,[.own k m]) (List.mem_singleton.2 rfl)) hm
   refine(q_rListS ht hS).mono ?_
   rintro e w' ⟨v,rfl,h1,h2,h3⟩
   exact⟨v,rfl,h1,h2,h3⟩)
theorem n4 (tl:go ρ u 86 l S) (hS:GoodS S) (hn:ρ[n]? =some (.val (.int .i64 (S.length:Int)))):(OIns.mk (.mut 34 ⟨[],[(u,86,[l])],[],none,[],[.one (.ref n)]⟩) [.one (.ptr u 0)] r).Ok Tryz.prog ρ:=
 bV (args:=[]) (aA Tryz.func34 rfl rfl) tl (fun B w g sl vs _ ht hv=>by
  match vs,hv with
  | [],hv=>
   refine(q_rLen S ht hS.len).mono ?_
   rintro e w' ⟨rfl,h2⟩
   exact⟨_,rfl,fun B' _=>aH hn aE,h2⟩)
theorem I_tDrop (hm:ρ[m]? =some (.row stT S.length (az S))) (hm':ρ[m']? =some (.row stT (S.drop (plN S (a+1) - 1)).length (az (S.drop (plN S (a+1) - 1))))) (ka:KI ρ la .i64 a) (hS:GoodS S) (hc:ρ[c]? =some (.val (.int .i64 ((plN S (a+1) - 1:Nat):Int)))):
  (OIns.mk (.mut 26 ⟨[k],[(u,79,[.own k m])],[(u,79,[.own k m'])],none,[],[.one (.ref c)]⟩) [.one (.ptr u 0),.one la] r).Ok Tryz.prog ρ:=
 lZ (args:=[.one la]) (aA Tryz.func26 rfl rfl) hm hm' (fun B w g sl vs _ ht hv=>by
  match vs,hv with
  | [v],hv=>
   have e:=ka _ _ _ hv.1
   subst e
   refine(q_DropS ht hS).mono ?_
   rintro e w' ⟨rfl,h3⟩
   exact⟨_,rfl,fun B'=>aH hc aE,h3⟩)
theorem I_rtDrop (hm:ρ[m]? =some (.row stT S.length (az S))) (hm':ρ[m']? =some (.row stT (S.drop (plN S (a+1) - 1)).length (az (S.drop (plN S (a+1) - 1))))) (ka:KI ρ la .i64 a) (hS:GoodS S) (hc:ρ[c]? =some (.val (.int .i64 ((plN S (a+1) - 1:Nat):Int)))):
  (OIns.mk (.mut 29 ⟨[k],[(u,86,[.own k m])],[(u,86,[.own k m'])],none,[],[.one (.ref c)]⟩) [.one (.ptr u 0),.one la] r).Ok Tryz.prog ρ:=
 lZ (args:=[.one la]) (aA Tryz.func29 rfl rfl) hm hm' (fun B w g sl vs _ ht hv=>by
  match vs,hv with
  | [v],hv=>
   have e:=ka _ _ _ hv.1
   subst e
   refine(q_rDropS ht hS).mono ?_
   rintro e w' ⟨rfl,h3⟩
   exact⟨_,rfl,fun B'=>aH hc aE,h3⟩)
end
end Go.Proofs.YtfhinmdhjlmikaaGreat
namespace Go.Proofs.YtfhinmdhjlmikaaGreat
set_option linter.unusedSimpArgs false
set_option linter.unusedVariables false
set_option maxRecDepth 100000
open Go.RowKit
/-- An operation as it comes in. -/
structure ROp where
 k:Int
 x:RSt
/-- Its kind modulo 4. -/
def ROp.r (o:ROp):Int:=o.k.tmod 4
def ROp.qs (o:ROp):List Vp:=.val (.int .u8 o.k)::o.x.qs
def cZ (R:List ROp):List Vp:=R.flatMap ROp.qs
section
variable {ρ:Rho} {n m m' k j j':Nat} {t e:TypeId} {l:Leaf}
theorem py:∀ {R:List ROp} {k:Nat} {o:ROp} {j:Nat} {q:Vp},R[k]? =some o→o.qs[j]? =some q→(cZ R)[k*23+j]? =some q
 | [],_,_,_,_,h,_=>by simp at h
 | s::R,0,x,j,q,h,hq=>by
  simp at h;subst h
  have hj:j<s.qs.length:=(List.getElem?_eq_some_iff.1 hq).1
  simp only[cZ,List.flatMap_cons,Nat.zero_mul,Nat.zero_add]
  rw[List.getElem?_append_left hj];exact hq
 | s::R,k+1,x,j,q,h,hq=>by
  have:=py (R:=R) (k:=k) (o:=x) (by simpa using h) hq
  have h23:s.qs.length=23:=rfl
  simp only[cZ,List.flatMap_cons]at this⊢
  rw[List.getElem?_append_right (by rw[h23];omega),h23,show(k+1)*23+j - 23=k*23+j from by omega]
  exact this
theorem rowP_ne {R:List ROp} {k:Nat} {o:ROp} (h:R[k]? =some o):cZ R≠ []:=fun e=>by
 have:=py (j:=0) (q:=.val (.int .u8 o.k)) h rfl
 rw[e]at this;simp at this
theorem dW (R:List ROp) (hn:ρ[n]? =some (.rowW R.length (cZ R))) (hm:ρ[m]? =some (.val (.int .i64 (R.length:Int)))):(OIns.mk (.len 65) [.one (.ref n)] (.one (.ref m))).Ok Tryz.prog ρ:=o_lenW ⟨_,Tryz.underlying65⟩ hn (fun _ _=>aH hm aE)
theorem mg (R:List ROp) (o:ROp) (hn:ρ[n]? =some (.rowW R.length (cZ R))) (hm:ρ[m]? =some (.plcW o.qs)) (hl:KI ρ l .i64 (k:Int)) (hx:R[k]? =some o):(OIns.mk (.ia 65) [.one (.ref n),.one l] (.one (.ref m))).Ok Tryz.prog ρ:=
 o_iaW Tryz.underlying65 (by kernel_rfl:szB Tryz.prog 67=some 23) hn hm hl (List.getElem?_eq_some_iff.1 hx).1 (rowP_ne hx) (fun _ _ hq=>py hx hq)
theorem sc (o:ROp) (hn:ρ[n]? =some (.plcW o.qs)):(OIns.mk (.fa 67 0) [.one (.ref n)] (.one (.ref n))).Ok Tryz.prog ρ:=po (off:=0) (sz:=0) (by kernel_rfl) hn hn (fun j q h=>by rw[Nat.zero_add];exact h)
theorem iU (o:ROp) (hn:ρ[n]? =some (.plcW o.qs)) (hm:ρ[m]? =some (.plcW o.x.qs)):(OIns.mk (.fa 67 1) [.one (.ref n)] (.one (.ref m))).Ok Tryz.prog ρ:=po (off:=1) (sz:=21) (by kernel_rfl) hn hm (fun j q h=>by rw[Nat.add_comm];exact h)
theorem sd (o:ROp) (hn:ρ[n]? =some (.plcW o.qs)) (hm:ρ[m]? =some (.val (.int .u8 o.k))):(OIns.mk (.ld 5) [.one (.ref n)] (.one (.ref m))).Ok Tryz.prog ρ:=o_ldW (by kernel_rfl) hn (lq hm)
theorem se (o:ROp) (hn:ρ[n]? =some (.val (.int .u8 o.k))) (hm:ρ[m]? =some (.val (.int .u8 o.r))):(OIns.mk (.bin .rem 5) [.one (.ref n),.one (.i .u8 4)] (.one (.ref m))).Ok Tryz.prog ρ:=fun B w vs hv=>by
 match vs,hv with
 | [v0,v1],hv=>
  have e0:=bh hn hv.1
  have e1:v1= .int .u8 4:=hv.2.1
  subst e0;subst e1
  refine⟨.int .u8 (o.k.tmod 4),aH hm (q8 (by decide)),fun xo yo=> ?_⟩
  simp[eqGuard,binOp,Op.intDiv,Sem.run_bind,Result.andThen]
/-- Two stamps in a slice. -/
theorem QL.app {ls ls':List Leaf} {qs qs':List Vp} (h:QL ρ ls qs) (h':QL ρ ls' qs'):QL ρ (ls++ls') (qs++qs'):=by
 induction ls generalizing qs with
 | nil=>cases qs with
  | nil=>exact h'
  | cons=>exact h.elim
 | cons l ls ih=>cases qs with
  | nil=>exact h.elim
  | cons q qs=>exact⟨h.1,ih h.2⟩
theorem I_SameT {S:List St} (hn:ρ[n]? =some (.row stT S.length (az S))) (hn':ρ[m]? =some (.row stT S.length (az S))) (hl:S.length≤100000) (hS:∀x∈S,x.pose.ok 2):Inst.Ok Tryz.prog ρ ⟨17,[.one (.ref n),.one (.ref m)],.v (.one (.b true))⟩:=
 ⟨aA Tryz.func17 rfl rfl,fun B w vs hB h=>by
  match vs,h with
  | [v,v'],h=>
   refine(q_Same S v v' (leaf_p hn h.1) (leaf_p hn' h.2.1) hl hS).mono ?_
   rintro e w' ⟨rfl,h2⟩
   exact⟨_,rfl,rfl,h2⟩⟩
end
section
variable {ρ:Rho} {n n' m u n0 n1:Nat} {l la lc:Leaf} {S:List St} {a c:Int} {z y:St} {ns k0 k1:List Nat} {r:SV}
/-- A pose as a stamp. -/
def aS (p:Pq):St:=⟨0,p⟩
theorem o_bsR2 (hn:ρ[n]? =some (.val (.int .i64 z.tm))) (ha:AtR ρ k0 z.raw.rs) (hn':ρ[n']? =some (.val (.int .i64 y.tm))) (ha':AtR ρ k1 y.raw.rs) (hm:ρ[m]? =some (.row stT [z,y].length (az [z,y]))):
  (OIns.mk (.bs 22 2 [0,1]) [.agg (.ref n::bo k0),.agg (.ref n'::bo k1)] (.one (.ref m))).Ok Tryz.prog ρ:=by
 obtain⟨a1,a2,a3,a4,a5,a6,a7,rfl⟩:∃a1 a2 a3 a4 a5 a6 a7,k0=[a1,a2,a3,a4,a5,a6,a7]:=by
  match k0,ha with
  | [a1,a2,a3,a4,a5,a6,a7],_=>exact⟨_,_,_,_,_,_,_,rfl⟩
 obtain⟨b1,b2,b3,b4,b5,b6,b7,rfl⟩:∃a1 a2 a3 a4 a5 a6 a7,k1=[a1,a2,a3,a4,a5,a6,a7]:=by
  match k1,ha' with
  | [a1,a2,a3,a4,a5,a6,a7],_=>exact⟨_,_,_,_,_,_,_,rfl⟩
 exact rf (m:=m) (ss:=[.agg (.ref n::bo [a1,a2,a3,a4,a5,a6,a7]),.agg (.ref n'::bo [b1,b2,b3,b4,b5,b6,b7])]) (N:=2) (sz:=22) (z:=.i .i64 0::List.flatten (List.replicate 7 [.b false,.sl0,.sl0])) (qs:=z.raw.qs++y.raw.qs) (ix:=[0,1]) (ls:=(.ref n::bo [a1,a2,a3,a4,a5,a6,a7])++(.ref n'::bo [b1,b2,b3,b4,b5,b6,b7])) Tryz.underlying22 (by kernel_rfl) (by kernel_rfl) (by decide) (by decide) (by decide) rfl (by kernel_rfl) ((ql_rs (x:=z.raw) hn ha).app (ql_rs (x:=y.raw) hn' ha')) hm
theorem I_AtU (tl:go ρ u 79 l S) (ka:KI ρ la .i64 a) (hS:GoodS S) (hr:Road S a z y c) (ar:AtR ρ ns (aS (atP z y c a)).raw.rs) (hlc:∀B w,lc.holds ρ B w (.int .i64 c)):
  (OIns.mk (.mut 12 ⟨[],[(u,79,[l])],[],none,[],[cP ns,.one lc]⟩) [.one (.ptr u 0),.one la] r).Ok Tryz.prog ρ:=
 bV (args:=[.one la]) (aA Tryz.func12 rfl rfl) tl (fun B w g sl vs _ ht hv=>by
  match vs,hv with
  | [v],hv=>
   have e:=ka _ _ _ hv.1
   subst e
   refine(q_AtS ht hS hr).mono ?_
   rintro e w' ⟨v0,rfl,h1,h2⟩
   exact⟨_,rfl,fun B' _=>⟨[v0,.int .i64 c],rfl,(aM ar).2 h1,hlc _ _,trivial⟩,h2⟩)
theorem I_rAtU (tl:go ρ u 86 l S) (ka:KI ρ la .i64 a) (hS:GoodS S) (hr:Road S a z y c) (ar:AtR ρ ns (aS (atP z y c a)).raw.rs) (hlc:∀B w,lc.holds ρ B w (.int .i64 c)):
  (OIns.mk (.mut 31 ⟨[],[(u,86,[l])],[],none,[],[cP ns,.one lc]⟩) [.one (.ptr u 0),.one la] r).Ok Tryz.prog ρ:=
 bV (args:=[.one la]) (aA Tryz.func31 rfl rfl) tl (fun B w g sl vs _ ht hv=>by
  match vs,hv with
  | [v],hv=>
   have e:=ka _ _ _ hv.1
   subst e
   refine(q_rAtS ht hS hr).mono ?_
   rintro e w' ⟨v0,rfl,h1,h2⟩
   exact⟨_,rfl,fun B' _=>⟨[v0,.int .i64 c],rfl,(aM ar).2 h1,hlc _ _,trivial⟩,h2⟩)
theorem qE (tl:go ρ u 79 l S) (ka:KI ρ la .i64 a) (hS:GoodS S) (hr:Road S a z y c) (a0:ρ[n0]? =some (.val (.int .i64 z.tm))) (b0:AtR ρ k0 z.raw.rs) (a1:ρ[n1]? =some (.val (.int .i64 y.tm))) (b1:AtR ρ k1 y.raw.rs) (hlc:∀B w,lc.holds ρ B w (.int .i64 c)):
  (OIns.mk (.mut 13 ⟨[],[(u,79,[l])],[],none,[],[.agg (.ref n0::bo k0),.agg (.ref n1::bo k1),.one lc]⟩) [.one (.ptr u 0),.one la] r).Ok Tryz.prog ρ:=
 bV (args:=[.one la]) (aA Tryz.func13 rfl rfl) tl (fun B w g sl vs _ ht hv=>by
  match vs,hv with
  | [v],hv=>
   have e:=ka _ _ _ hv.1
   subst e
   refine(z6 ht hS hr).mono ?_
   rintro e w' ⟨v0,v1,rfl,h1,h1',h2⟩
   exact⟨_,rfl,fun B' _=>⟨[v0,v1,.int .i64 c],rfl,(dV (x:=z.raw) a0 b0).2 h1,(dV (x:=y.raw) a1 b1).2 h1',hlc _ _,trivial⟩,h2⟩)
theorem pz (tl:go ρ u 86 l S) (ka:KI ρ la .i64 a) (hS:GoodS S) (hr:Road S a z y c) (a0:ρ[n0]? =some (.val (.int .i64 z.tm))) (b0:AtR ρ k0 z.raw.rs) (a1:ρ[n1]? =some (.val (.int .i64 y.tm))) (b1:AtR ρ k1 y.raw.rs) (hlc:∀B w,lc.holds ρ B w (.int .i64 c)):
  (OIns.mk (.mut 30 ⟨[],[(u,86,[l])],[],none,[],[.agg (.ref n0::bo k0),.agg (.ref n1::bo k1),.one lc]⟩) [.one (.ptr u 0),.one la] r).Ok Tryz.prog ρ:=
 bV (args:=[.one la]) (aA Tryz.func30 rfl rfl) tl (fun B w g sl vs _ ht hv=>by
  match vs,hv with
  | [v],hv=>
   have e:=ka _ _ _ hv.1
   subst e
   refine(wW ht hS hr).mono ?_
   rintro e w' ⟨v0,v1,rfl,h1,h1',h2⟩
   exact⟨_,rfl,fun B' _=>⟨[v0,v1,.int .i64 c],rfl,(dV (x:=z.raw) a0 b0).2 h1,(dV (x:=y.raw) a1 b1).2 h1',hlc _ _,trivial⟩,h2⟩)
theorem I_rpEqU {s:St} (hr:AtR ρ k0 s.raw.rs) (hr':AtR ρ k1 s.raw.rs) (hs:s.pose.ok 1000000):Inst.Ok Tryz.prog ρ ⟨15,[cP k0,cP k1],.v (.one (.b true))⟩:=
 ⟨aA Tryz.func15 rfl rfl,fun B w vs hB h=>by
  match vs,h with
  | [v,v'],h=>
   refine(kM v v' s.pose s.pose w ((aM hr).1 h.1) ((aM hr').1 h.2.1) (hs.mono (by decide)) (hs.mono (by decide)) rfl).mono ?_
   rintro e w' ⟨rfl,h2⟩
   exact⟨_,rfl,rfl,h2⟩⟩
theorem mh (tl:go ρ u 79 l S) (hS:GoodS S) (h0:ρ[n]? =some (.val (.int .i64 (cY S).1))) (h1:ρ[n0]? =some (.val (.int .i64 (cY S).2.1))) (h2:ρ[n1]? =some (.val (.bool (cY S).2.2))):(OIns.mk (.mut 20 ⟨[],[(u,79,[l])],[],none,[],[.one (.ref n),.one (.ref n0),.one (.ref n1)]⟩) [.one (.ptr u 0)] r).Ok Tryz.prog ρ:=
 bV (args:=[]) (aA Tryz.func20 rfl rfl) tl (fun B w g sl vs _ ht hv=>by
  match vs,hv with
  | [],hv=>
   refine(q_SpanS ht hS).mono ?_
   rintro e w' ⟨rfl,h3⟩
   exact⟨_,rfl,fun B' _=>⟨[_,_,_],rfl,aH h0 aE,aH h1 aE,aH h2 fL,trivial⟩,h3⟩)
theorem jW (tl:go ρ u 86 l S) (hS:GoodS S) (h0:ρ[n]? =some (.val (.int .i64 (cY S).1))) (h1:ρ[n0]? =some (.val (.int .i64 (cY S).2.1))) (h2:ρ[n1]? =some (.val (.bool (cY S).2.2))):(OIns.mk (.mut 33 ⟨[],[(u,86,[l])],[],none,[],[.one (.ref n),.one (.ref n0),.one (.ref n1)]⟩) [.one (.ptr u 0)] r).Ok Tryz.prog ρ:=
 bV (args:=[]) (aA Tryz.func33 rfl rfl) tl (fun B w g sl vs _ ht hv=>by
  match vs,hv with
  | [],hv=>
   refine(q_rSpanS ht hS).mono ?_
   rintro e w' ⟨rfl,h3⟩
   exact⟨_,rfl,fun B' _=>⟨[_,_,_],rfl,aH h0 aE,aH h1 aE,aH h2 fL,trivial⟩,h3⟩)
theorem jX {b:Bool} (h0:ρ[n0]? =some (.val (.bool b))) (h1:ρ[n1]? =some (.val (.bool b))):(OIns.mk (.bin .neq 4) [.one (.ref n0),.one (.ref n1)] (.one (.b false))).Ok Tryz.prog ρ:=fun B w vs hv=>by
 match vs,hv with
 | [v0,v1],hv=>
  have e0:=bh h0 hv.1
  have e1:=bh h1 hv.2.1
  subst e0;subst e1
  refine⟨.bool false,rfl,fun xo yo=> ?_⟩
  simp[eqGuard,binOp,Sem.run_bind,Result.andThen,oN (t:=4) (by kernel_rfl)]
end
/-- The first that is not so. -/
theorem qF {α:Type} (f:α→Bool) (R:List α):∀n,(∀(i:Nat) (y:α),i<n→R[i]? =some y→f y=true)∨∃j x,j<n∧R[j]? =some x∧(∀(i:Nat) (y:α),i<j→R[i]? =some y→f y=true)∧f x=false
 | 0=>.inl (fun i y h=>by omega)
 | n+1=>by
  rcases qF f R n with h | ⟨j,x,h1,h2⟩
  ·by_cases hb:∃x,R[n]? =some x∧f x=false
   ·obtain⟨x,hx,hb⟩:=hb
    exact .inr ⟨n,x,by omega,hx,h,hb⟩
   ·refine .inl (fun i y hi hy=> ?_)
    by_cases e:i=n
    ·subst e
     cases ht:f y with
     | true=>rfl
     | false=>exact absurd ⟨y,hy,ht⟩ hb
    ·exact h i y (by omega) hy
  ·exact .inr ⟨j,x,by omega,h2⟩
/-- What an operation makes of a track. -/
noncomputable def np (S:List St) (o:ROp):List St:=if o.r=1 then S.drop (plN S (o.x.tm+1) - 1)else if o.r=2 then S else(eX S o.x).1
noncomputable def aN (R:List ROp) (k:Nat):List St:=(R.take k).foldl np []
theorem pA {R:List ROp} {k:Nat} {o:ROp} (h:R[k]? =some o):aN R (k+1)=np (aN R k) o:=by
 unfold aN
 rw[List.take_add_one,h,List.foldl_append];rfl
theorem xf {S:List St} {o:ROp} (hS:GoodS S) (h2:o.x.two):GoodS (np S o):=by
 unfold np
 split
 ·exact hS.drop _
 ·split
  ·exact hS
  ·exact hH hS h2
theorem gl {R:List ROp} (h:∀o∈R,o.x.tw=true):∀k,k≤R.length→GoodS (aN R k)
 | 0,_=>GoodS.nil
 | k+1,hk=>by
  have hx:R[k]? =some (R[k]'(by omega)):=List.getElem?_eq_getElem (by omega)
  rw[pA hx]
  exact xf (gl h k (by omega)) (RSt.tw_iff.1 (h _ (List.mem_of_getElem? hx)))
theorem play_or {S:List St} (hS:GoodS S) (o:ROp):o.r=1∨(o.r=2∧∃z y c,Road S o.x.tm z y c∧c≠0)∨(o.r=2∧∃z y,Road S o.x.tm z y 0)∨(o.r≠1∧o.r≠2):=by
 by_cases h1:o.r=1
 ·exact .inl h1
 ·by_cases h2:o.r=2
  ·obtain⟨z,y,c,hr⟩:=road hS o.x.tm
   by_cases hc:c=0
   ·subst hc;exact .inr (.inr (.inl ⟨h2,z,y,hr⟩))
   ·exact .inr (.inl ⟨h2,z,y,c,hr,hc⟩)
  ·exact .inr (.inr (.inr ⟨h1,h2⟩))
theorem two_in {z y:St} {S:List St} {a:Int} (hS:GoodS S) (h:Road S a z y 0):∀x∈ [z,y],x.pose.ok 2:=by
 obtain⟨gz,gy,_⟩:=road_z hS h rfl
 intro x hx
 simp at hx
 rcases hx with rfl | rfl
 ·exact gz.ok
 ·exact gy.ok
end Go.Proofs.YtfhinmdhjlmikaaGreat
