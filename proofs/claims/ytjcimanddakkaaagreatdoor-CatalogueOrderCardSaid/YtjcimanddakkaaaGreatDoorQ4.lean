/- Lemmas. -/
import Derived.Test.YtjcimanddakkaaaGreatDoorQ3
set_option maxRecDepth 100000
set_option maxHeartbeats 8000000
namespace Go.Proofs.YtjcimanddakkaaaGreatDoor
open _root_.Option renaming some→X
open _root_.List renaming length_cons→ad
section
open Go.RowKit
structure Low (d:ar) (N:Nat):Prop where
 v:∀p∈d.vs,0<=p.2.1/\p.2.1<=5
 s:∀p∈d.ds,0<=p.2/\p.2<=5
 p:∀p∈d.ps,0<=p.2.1/\p.2.1<=5
 lv:d.vs.length<=N
 ls:d.ds.length<=N
 lp:d.ps.length<=N
theorem CR:Low cat0 0:=⟨by simp [cat0],by simp [cat0],by simp [cat0],by simp [cat0],by simp [cat0],by simp [cat0]⟩
theorem Low.more {d:ar} {N:Nat} (h:Low d N):Low d (N+1):=⟨h.v,h.s,h.p,by have:=h.lv;omega,by have:=h.ls;omega,by have:=h.lp;omega⟩
theorem Cj (d:ar) (k:RK) (n:Int) (r:az):(putC d k n r).1=d∨wrongR r=0/\(putC d k n r).1={d with vs:=insL ltRK d.vs k (n,r)}:=by
 unfold putC;split
 · exact .inl rfl
 · rename_i a;have a:wrongR r=0:=Classical.not_not.1 a;dsimp only;repeat' split
   all_goals first |exact .inl rfl|exact .inr ⟨a,rfl⟩
theorem Br (d:ar) (k:RK) (n:Int):(dropC d k n).1=d∨(dropC d k n).1={d with ds:=insL ltRK d.ds k n}:=by
 unfold dropC;dsimp only;repeat' split
 all_goals first |exact .inl rfl|exact .inr rfl
theorem xy (d:ar) (a b:RK) (n:Int) (j:Bool):(decideC d a b n j).1=d∨(decideC d a b n j).1={d with ps:=insL ltPK d.ps (pairK a b) (n,j)}:=by
 unfold decideC;split
 · exact .inl rfl
 · dsimp only;repeat' split
   all_goals first |exact .inl rfl|exact .inr rfl
theorem Low.put {d:ar} {N:Nat} (h:Low d N) (b:d.Ok) (k:RK) {n:Int} (a:0<=n/\n<=5) (r:az):Low (putC d k n r).1 (N+1):=by
 rcases Cj d k n r with e|⟨_,e⟩
 · rw [e];exact h.more
 · rw [e];refine ⟨cO (R:=λp=>0<=p.2.1/\p.2.1<=5) aN b.vs h.v a,h.s,h.p,?_,?_,?_⟩
   · have:=fg (lt:=ltRK) d.vs k (n,r);have:=h.lv;show (insL ltRK d.vs k (n,r)).length<=_;omega
   · have:=h.ls;show d.ds.length<=_;omega
   · have:=h.lp;show d.ps.length<=_;omega
theorem Low.drop {d:ar} {N:Nat} (h:Low d N) (b:d.Ok) (k:RK) {n:Int} (a:0<=n/\n<=5):Low (dropC d k n).1 (N+1):=by
 rcases Br d k n with e|e
 · rw [e];exact h.more
 · rw [e];refine ⟨h.v,cO (R:=λp=>0<=p.2/\p.2<=5) aN b.ds h.s a,h.p,?_,?_,?_⟩
   · have:=h.lv;show d.vs.length<=_;omega
   · have:=fg (lt:=ltRK) d.ds k n;have:=h.ls;show (insL ltRK d.ds k n).length<=_;omega
   · have:=h.lp;show d.ps.length<=_;omega
theorem Low.dec {d:ar} {N:Nat} (h:Low d N) (f:d.Ok) (a b:RK) {n:Int} (c:0<=n/\n<=5) (j:Bool):Low (decideC d a b n j).1 (N+1):=by
 rcases xy d a b n j with e|e
 · rw [e];exact h.more
 · rw [e];refine ⟨h.v,h.s,cO (R:=λp=>0<=p.2.1/\p.2.1<=5) cY f.ps h.p c,?_,?_,?_⟩
   · have:=h.lv;show d.vs.length<=_;omega
   · have:=h.ls;show d.ds.length<=_;omega
   · have:=fg (lt:=ltPK) d.ps (pairK a b) (n,j);have:=h.lp;show (insL ltPK d.ps (pairK a b) (n,j)).length<=_;omega
def yearsL:List Bs:=[[],[49,57,56,52],[49,57,56,53],[49,57,57,48],[99,49,57,56,52,46],[49,57,56],[56,52,32,49,57,57,57,32,49,57,56,52],[120]]
def booksL:List Bs:=[[],[57,55,56,51,49,54,49,52,56,52,49,48,48],[57,55,56,45,51,45,49,54,45,49,52,56,52,49,48,45,48,32,40,112,98,107,41],[51,49,54,49,52,56,52,49,48,88],[48,51,48,54,52,48,54,49,53,50],[57,55,56,48,51,48,54,52,48,54,49,53,55],[49,50,51]]
def namesL:List Bs:=[[],[77,195,188,108,108,101,114,44,32,65,110,110,97],[77,117,108,108,101,114,44,32,65,110,110,97],[77,85,76,76,69,82,32,65,46],[71,195,182,100,101,108,44,32,75,117,114,116],[45]]
def titlesL:List Bs:=[[84,104,101,32,115,116,97,114,115],[116,104,101,32,83,84,65,82,83,33],[83,116,97,114,115],[],[195,156,98,101,114,32,97,108,108,101,115],[85,98,101,114,44,32,97,108,108,101,115]]
def textsL:List Bs:=[[],[31],[30],[97,29,98],[255],[195],[237,160,128],[224,128,128],[127],[195,169],[116,97,98,9]]
def iV:List Bs:=[[48,48,48],[50,52],[50,52,53,53],[50,52,97],[],[48,48,49],[50,52,53]]
def gZ:List Bs:=[[],[49],[49,50,51],[31,48],[32,126],[48,127]]
def inds3L:List Bs:=[[48,48],[48,52],[49,120]]
def pick (l:List Bs) (n:Int):Bs:=l.getD (n.emod l.length).toNat []
def u8I (n:Int):UInt8:=UInt8.ofNat (n.emod 256).toNat
structure Six where
 a:Int
 b:Int
 c:Int
 d:Int
 e:Int
 f:Int
def made008 (n:Int):List af:=if n.tmod 2=0 then [⟨lK,[],[56,53,48,49,48,49,115]++pick yearsL n++[32,32,32,32,120,120],[]⟩] else []
def gw (n:Int) (i:Nat):af:=⟨eu,[32,32],[],[⟨if n.emod 7=6 then 122 else 97,pick booksL (n.tdiv 3+i)⟩]⟩
def gh (n:Int):List af:=(List.range (n.emod 3).toNat).map (gw n)
def eH (n:Int):List af:=if n.tmod 4≠0 then [⟨dW,[49,32],[],[⟨97,pick namesL (n.tdiv 4)⟩]⟩] else []
def eG (n:Int):List af:=if n.tmod 5≠0 then [⟨ck,pick inds3L n,[],[⟨97,pick titlesL (n.tdiv 5)⟩,⟨99,[98,121]⟩]⟩] else []
def eF (n:Int):List af:=if n.tmod 3≠0 then [⟨lJ,[32,32],[],[⟨97,[80,97,114,105,115,32,49,57,48,48]⟩,⟨99,pick yearsL n⟩]⟩] else []
def madeR (q:Six):az:=⟨if q.a.emod 5=4 then 109 else 97,109,made008 q.b++gh q.c++eH q.d++eG q.e++eF q.f⟩
def gM (f:af) (n b c:Int):af:=
 if n=2 then {f with tag:=pick iV c}
 else if n=3 then {f with data:=f.data++pick textsL c}
 else if n=4 then {f with ind:=pick gZ c}
 else if n=5 then {f with subs:=[]}
 else if n=6 then {f with subs:=f.subs++[⟨u8I b,pick textsL c⟩]}
 else if n=7 then {f with subs:=f.subs++[⟨122,pick textsL c⟩]}
 else f
def spoilR (r:az) (n b c:Int):az:=
 if r.fields=[] then ⟨u8I b,r.level,[]⟩
 else if n=0 then ⟨u8I c,r.level,r.fields⟩
 else if n=1 then ⟨r.kind,u8I c,r.fields⟩
 else ⟨r.kind,r.level,r.fields.modify (b.emod r.fields.length).toNat λf=>gM f n b c⟩
structure bG where
 k:Int
 a:Int
 b:Int
 v:Int
 q:Six
def workQ (n:Int):Six:=if n.emod 4=0 then ⟨0,2,1,5,6,0⟩ else if n.emod 4=1 then ⟨0,2,0,5,6,1⟩ else if n.emod 4=2 then ⟨0,4,4,9,21,1⟩ else ⟨0,1,0,9,21,2⟩
def saidR (x:bG):az:=
 let r:=madeR (if x.b.tmod 3≠0 then workQ x.b else x.q)
 if x.k.emod 8=4/\x.b.tmod 5=0 then spoilR r (x.a.emod 8) x.b x.v else r
def actC (d:ar) (x:bG):ar×Int:=
 if x.k.emod 8=5 then dropC d (recI x.a) (x.v.emod 6)
 else if x.k.emod 8=6 then decideC d (recI x.a) (recI x.b) (x.v.emod 6) false
 else if x.k.emod 8=7 then decideC d (recI x.a) (recI x.b) (x.v.emod 6) true
 else putC d (recI x.a) (x.v.emod 6) (saidR x)
def runC (l:List bG) (d:ar):ar:=l.foldl (λd x=>(actC d x).1) d
theorem dY (x:bG) (l:List bG) (d:ar):runC (x::l) d=runC l (actC d x).1:=rfl
theorem rz (l m:List bG) (d:ar):runC (l++m) d=runC m (runC l d):=List.foldl_append ..
theorem ff (n:Int):rkOk (recI n):=by
 have h1:n.emod 3=n%3:=rfl;have a:(n.tdiv 3).emod 4=n.tdiv 3%4:=rfl;unfold recI rkOk i64B;rw [h1,a];simp only [];omega
theorem yj (n:Int):0<=n.emod 6/\n.emod 6<=5:=by
 show 0<=n%6/\n%6<=5;omega
theorem jF (n:Int):i64B (n.emod 6):=by have:=yj n;unfold i64B;omega
theorem bd.putC {d:ar} (h:bd d) {k:RK} {n:Int} {r:az} (c:rkOk k) (f:i64B n):bd (putC d k n r).1:=by
 by_cases hd:(Go.Proofs.YtjcimanddakkaaaGreatDoor.putC d k n r).1=d
 · rw [hd];exact h
 · unfold Go.Proofs.YtjcimanddakkaaaGreatDoor.putC at hd ⊢;by_cases hr:wrongR r=0
   · rw [if_neg (by simp [hr])] at hd ⊢;dsimp only at hd ⊢
     have key:((findK d.vs k).isSome=false->d.vs.length<5000)->bd {d with vs:=insL ltRK d.vs k (n,r)}:=λe=>
      ⟨⟨bW aN h.ok.vs k _,h.ok.ds,h.ok.ps,h.ok.apart⟩,p8 aN h.ok.vs k _ h.vlen e,h.dlen,h.plen,cO (R:=λp=>wrongR p.2.2=0) aN h.ok.vs h.right hr,cO (R:=λp=>i64B p.2.1) aN h.ok.vs h.vnum f,h.dnum,h.pnum,cO (R:=λp=>rkOk p.1) aN h.ok.vs h.vkey c,h.dkey,h.pkey⟩
     cases hf2:findK d.vs k with
     |some x=>
      rw [hf2] at hd key;dsimp only at hd ⊢;split at hd
      · rename_i a;rw [if_pos a];exact key (λb=>by cases b)
      · exact absurd rfl hd
     |none=>
      rw [hf2] at hd key;dsimp only at hd ⊢;split at hd
      · rename_i a;rw [if_pos a];exact key (λ_=>gg a rfl)
      · exact absurd rfl hd
   · rw [if_pos hr] at hd;exact absurd rfl hd
theorem bd.dropC {d:ar} (h:bd d) {k:RK} {n:Int} (a:rkOk k) (b:i64B n):bd (dropC d k n).1:=by
 rw [ql];split
 · rename_i c;exact h.drop a b c
 · exact h
theorem bd.decideC {d:ar} (h:bd d) {a b:RK} {n:Int} {j:Bool} (c:rkOk a) (e:rkOk b) (f:i64B n):bd (decideC d a b n j).1:=by
 by_cases hab:a=b
 · unfold Go.Proofs.YtjcimanddakkaaaGreatDoor.decideC;rw [if_pos hab];exact h
 · rw [kh _ _ _ _ _ hab];split
   · rename_i g;exact h.decide hab c e f g
   · exact h
theorem bd.actC {d:ar} (h:bd d) (x:bG):bd (actC d x).1:=by
 unfold Go.Proofs.YtjcimanddakkaaaGreatDoor.actC;split
 · exact h.dropC (ff _) (jF _)
 · split
   · exact h.decideC (ff _) (ff _) (jF _)
   · split
     · exact h.decideC (ff _) (ff _) (jF _)
     · exact h.putC (ff _) (jF _)
theorem bd.run:∀(l:List bG) {d:ar},bd d->bd (runC l d)
 |[],_,h=>h
 |x::l,_,h=>bd.run l (h.actC x)
theorem Low.act {d:ar} {N:Nat} (h:Low d N) (a:d.Ok) (x:bG):Low (Go.Proofs.YtjcimanddakkaaaGreatDoor.actC d x).1 (N+1):=by
 unfold Go.Proofs.YtjcimanddakkaaaGreatDoor.actC;split
 · exact h.drop a _ (yj _)
 · split
   · exact h.dec a _ _ (yj _) _
   · split
     · exact h.dec a _ _ (yj _) _
     · exact h.put a _ (yj _) _
theorem Low.run:∀(l:List bG) {d:ar} {N:Nat},bd d->Low d N->Low (runC l d) (N+l.length)
 |[],_,_,_,h=>h
 |x::l,_,N,ok,h=>by
  have:=Low.run l (ok.actC x) (h.act ok.ok x)
  rw [dY,ad,show N+(l.length+1)=N+1+l.length by omega]
  exact this
def iK:Bs:=[78,97,110,97]
def oo:Bs:=[71,101,114,109,105,110,97,108]
def el (t:Bs):az:=⟨97,109,[⟨dW,[49,32],[],[⟨97,[90,111,108,97]⟩]⟩,⟨ck,[49,48],[],[⟨97,t⟩]⟩]⟩
def Ce:ar:=(putC cat0 (1,1) 1 (el iK)).1
def Cd:ar:=(putC Ce (1,2) 1 (el iK)).1
def wC:ar:=(putC Cd (2,1) 1 (el iK)).1
def kU:ar:=(putC wC (2,2) 1 (el oo)).1
def jv:ar:=(decideC kU (1,1) (2,1) 1 false).1
def yB:ar:=(decideC jv (2,2) (2,1) 1 true).1
def nh:ar:=(dropC yB (1,1) 2).1
theorem vo:(putC cat0 (1,1) 1 (el iK)).2=0/\(putC Ce (1,2) 1 (el iK)).2=0/\(putC Cd (2,1) 1 (el iK)).2=0/\(putC wC (2,2) 1 (el oo)).2=0:=by decide+kernel
theorem lg:dg kU=[(1,1),(2,2)]/\membersC kU (1,1)=[(1,1),(1,2),(2,1)]:=by decide+kernel
theorem fW:(decideC kU (1,1) (2,1) 1 false).2=0/\dg jv=[(1,1),(2,1),(2,2)]/\membersC jv (1,1)=[(1,1),(1,2)]:=by decide+kernel
theorem dG:(decideC jv (2,2) (2,1) 1 true).2=0/\(dropC yB (1,1) 2).2=0/\dg nh=[(1,2)]/\membersC nh (1,2)=[(1,2),(2,1),(2,2)]:=by decide+kernel
end
section
open Go.RowKit
section
variable {K V:Type} [DecidableEq K] {lt:K->K->Bool}
def jt (lt:K->K->Bool) (l:List (K×V)) (k:K) (c:Option V->Bool) (v:V):List (K×V):=if c (findK l k) then insL lt l k v else l
theorem zj (T:Tot lt) {l:List (K×V)} (a:aq lt l) {k j:K} (d:k≠j) (v u:V):insL lt (insL lt l k v) j u=insL lt (insL lt l j u) k v:=by
 have f:=bW T a k v;have g:=bW T a j u;refine tJ T (bW T f j u) (bW T g k v) λq=>?_;rw [eh T f,eh T g,eh T a,eh T a];constructor
 · rintro (h|⟨h|⟨h1,b⟩,c⟩)
   · subst h;exact .inr ⟨.inl rfl,λe=>d e.symm⟩
   · exact .inl h
   · exact .inr ⟨.inr ⟨h1,c⟩,b⟩
 · rintro (h|⟨h|⟨h1,b⟩,c⟩)
   · subst h;exact .inr ⟨.inl rfl,d⟩
   · exact .inl h
   · exact .inr ⟨.inr ⟨h1,c⟩,b⟩
theorem lD (T:Tot lt) {l:List (K×V)} (b:aq lt l) {k j:K} (a:k≠j) (c e:Option V->Bool) (v u:V):jt lt (jt lt l k c v) j e u=jt lt (jt lt l j e u) k c v:=by
 unfold jt;by_cases h1:c (findK l k)=true
 · by_cases h2:e (findK l j)=true
   · rw [if_pos h1,if_pos h2,jG T b,if_neg (Ne.symm a),jG T b,if_neg a,if_pos h1,if_pos h2];exact zj T b a v u
   · rw [if_pos h1,if_neg h2,jG T b,if_neg (Ne.symm a),if_neg h2,if_pos h1]
 · by_cases h2:e (findK l j)=true
   · rw [if_neg h1,if_pos h2,jG T b,if_neg a,if_neg h1]
   · rw [if_neg h1,if_neg h2,if_neg h1]
end
theorem jX {q:Bool} {a b:Int} {m:Nat} (h:m<5000):aJ false q a b m=0:=by unfold aJ;simp;omega
theorem dZ {q:Bool} {a b:Int} {m n:Nat}:aJ true q a b m=aJ true q a b n:=by unfold aJ;simp
def putA (n:Int) (r:az):Option (Int×az)->Bool
 |some (n',r')=>decide (wrongR r=0)&&decide (aJ true (decide (n'=n)&&decide (r'=r)) n' n 0=0)
 |none=>decide (wrongR r=0)
def zG (n:Int):Option Int->Bool
 |some n'=>decide (aJ true (decide (n'=n)) n' n 0=0)
 |none=>true
def CB (n:Int) (j:Bool):Option (Int×Bool)->Bool
 |some (n',j')=>decide (aJ true (decide (n'=n)&&decide (j'=j)) n' n 0=0)
 |none=>true
theorem AF {d:ar} (k:RK) (n:Int) (r:az) (h:d.vs.length<5000):(putC d k n r).1={d with vs:=jt ltRK d.vs k (putA n r) (n,r)}:=by
 unfold putC jt;by_cases hr:wrongR r=0
 · rw [if_neg (by simp [hr])];dsimp only;cases hf:findK d.vs k with
   |none=> rw [if_pos (show aJ false false 0 n d.vs.length=0 from jX h),if_pos (by show decide (wrongR r=0)=true;rw [hr];rfl)]
   |some m=>
    obtain ⟨a,b⟩:=m;dsimp only;have:putA n r (X (a,b))=decide (aJ true (decide (a=n)&&decide (b=r)) a n 0=0):=by unfold putA;rw [decide_eq_true hr];rfl
    rw [this];by_cases he:aJ true (decide (a=n)&&decide (b=r)) a n d.vs.length=0
    · rw [if_pos he,if_pos (decide_eq_true (dZ.trans he))]
    · rw [if_neg he,if_neg (by simpa using λh=>he (dZ.trans h))]
 · rw [if_pos hr];have:∀o,putA n r o=false:=λo=>by cases o<;>simp [putA,hr]
   rw [if_neg (by rw [this];decide)]
theorem zF {d:ar} (k:RK) (n:Int) (h:d.ds.length<5000):(dropC d k n).1={d with ds:=jt ltRK d.ds k (zG n) n}:=by
 unfold dropC jt;dsimp only;cases hf:findK d.ds k with
 |none=>rw [if_pos (show aJ false false 0 n d.ds.length=0 from jX h)];rfl
 |some m=>
  dsimp only;unfold zG;by_cases he:aJ true (decide (m=n)) m n d.ds.length=0
  · rw [if_pos he,if_pos (decide_eq_true (dZ.trans he))]
  · rw [if_neg he,if_neg (by simpa using λh=>he (dZ.trans h))]
theorem vR {d:ar} (a b:RK) (n:Int) (j:Bool) (h:d.ps.length<5000):(decideC d a b n j).1=if a=b then d else {d with ps:=jt ltPK d.ps (pairK a b) (CB n j) (n,j)}:=by
 unfold decideC;by_cases hab:a=b
 · rw [if_pos hab,if_pos hab]
 · rw [if_neg hab,if_neg hab];unfold jt;dsimp only;cases hf:findK d.ps (pairK a b) with
   |none=>rw [if_pos (show aJ false false 0 n d.ps.length=0 from jX h)];rfl
   |some m=>
    obtain ⟨c,e⟩:=m;dsimp only;unfold CB;by_cases he:aJ true (decide (c=n)&&decide (e=j)) c n d.ps.length=0
    · rw [if_pos he,if_pos (decide_eq_true (dZ.trans he))]
    · rw [if_neg he,if_neg (by simpa using λh=>he (dZ.trans h))]
def clsA (x:bG):Nat:=if x.k.emod 8=5 then 1 else if x.k.emod 8=6∨x.k.emod 8=7 then 2 else 0
def tw (d:ar) (x:bG):ar:=
 if clsA x=1 then {d with ds:=jt ltRK d.ds (recI x.a) (zG (x.v.emod 6)) (x.v.emod 6)}
 else if clsA x=2 then (if recI x.a=recI x.b then d else {d with ps:=jt ltPK d.ps (pairK (recI x.a) (recI x.b)) (CB (x.v.emod 6) (decide (x.k.emod 8=7))) (x.v.emod 6,decide (x.k.emod 8=7))})
 else {d with vs:=jt ltRK d.vs (recI x.a) (putA (x.v.emod 6) (saidR x)) (x.v.emod 6,saidR x)}
theorem lw {d:ar} {N:Nat} (h:Low d N) (c:N<5000) (x:bG):(actC d x).1=tw d x:=by
 have h1:=h.lv;have a:=h.ls;have b:=h.lp;unfold actC tw clsA;by_cases e5:x.k.emod 8=5
 · rw [if_pos e5,if_pos (by rw [if_pos e5])];exact zF _ _ (by omega)
 · rw [if_neg e5];by_cases e6:x.k.emod 8=6
   · rw [if_pos e6,if_neg (by rw [if_neg e5,if_pos (.inl e6)];decide),if_pos (by rw [if_neg e5,if_pos (.inl e6)]),vR _ _ _ _ (by omega),decide_eq_false (show ¬x.k.emod 8=7 by omega)]
   · rw [if_neg e6];by_cases e7:x.k.emod 8=7
     · rw [if_pos e7,if_neg (by rw [if_neg e5,if_pos (.inr e7)];decide),if_pos (by rw [if_neg e5,if_pos (.inr e7)]),vR _ _ _ _ (by omega),decide_eq_true e7]
     · rw [if_neg e7,if_neg (by rw [if_neg e5,if_neg (by omega)];decide),if_neg (by rw [if_neg e5,if_neg (by omega)];decide)];exact AF _ _ _ (by omega)
def gE (x y:bG):Prop:=clsA x=clsA y->if clsA x=2 then ¬((recI x.a=recI y.a/\recI x.b=recI y.b)∨(recI x.a=recI y.b/\recI x.b=recI y.a)) else recI x.a≠recI y.a
theorem gE.symm {x y:bG} (h:gE x y):gE y x:=λe=>by
 have h:=h e.symm;rw [<- e] at h;by_cases h2:clsA y=2
 · rw [if_pos h2] at h ⊢;rintro (⟨a,b⟩|⟨a,b⟩)
   · exact h (.inl ⟨a.symm,b.symm⟩)
   · exact h (.inr ⟨b.symm,a.symm⟩)
 · rw [if_neg h2] at h ⊢;exact Ne.symm h
theorem yO {a b c e:RK} (h:pairK a b=pairK c e):(a=c/\b=e)∨(a=e/\b=c):=by
 unfold pairK at h;split at h<;>split at h<;>(injection h with h1 h2)<;>simp_all
theorem yl {d:ar} (c:d.Ok) {x y:bG} (h:gE x y):tw (tw d x) y=tw (tw d y) x:=by
 unfold gE at h;unfold tw;by_cases x1:clsA x=1
 · by_cases y1:clsA y=1
   · have h:=h (by omega);rw [if_neg (by omega)] at h;simp only [if_pos x1,if_pos y1];rw [lD aN c.ds h]
   · by_cases y2:clsA y=2
     · simp only [if_pos x1,if_neg y1,if_pos y2];by_cases e:recI y.a=recI y.b
       · simp only [if_pos e]
       · simp only [if_neg e]
     · simp only [if_pos x1,if_neg y1,if_neg y2]
 · by_cases x2:clsA x=2
   · by_cases y1:clsA y=1
     · simp only [if_neg x1,if_pos x2,if_pos y1];by_cases e:recI x.a=recI x.b
       · simp only [if_pos e]
       · simp only [if_neg e]
     · by_cases y2:clsA y=2
       · have h:=h (by omega);rw [if_pos x2] at h;simp only [if_neg x1,if_pos x2,if_neg y1,if_pos y2];by_cases e:recI x.a=recI x.b
         · simp only [if_pos e]
         · by_cases g:recI y.a=recI y.b
           · simp only [if_neg e,if_pos g]
           · simp only [if_neg e,if_neg g];rw [lD cY c.ps (λi=>h (yO i))]
       · simp only [if_neg x1,if_pos x2,if_neg y1,if_neg y2];by_cases e:recI x.a=recI x.b
         · simp only [if_pos e]
         · simp only [if_neg e]
   · by_cases y1:clsA y=1
     · simp only [if_neg x1,if_neg x2,if_pos y1]
     · by_cases y2:clsA y=2
       · simp only [if_neg x1,if_neg x2,if_neg y1,if_pos y2];by_cases e:recI y.a=recI y.b
         · simp only [if_pos e]
         · simp only [if_neg e]
       · have f:clsA x=clsA y:=by
          have:∀z,clsA z=0∨clsA z=1∨clsA z=2:=λz=>by unfold clsA;split;exact .inr (.inl rfl);split;exact .inr (.inr rfl);exact .inl rfl
          have h1:=this x;have j:=this y;omega
         have h:=h f;rw [if_neg x2] at h;simp only [if_neg x1,if_neg x2,if_neg y1,if_neg y2];rw [lD aN c.vs h]
theorem yD {l m:List bG} (e:l.Perm m):∀{d:ar} {N:Nat},bd d->Low d N->N+l.length<5000->l.Pairwise gE->runC l d=runC m d:=by
 induction e with
 |nil=>intros;rfl
 |cons x _ ih=> intro d N a h b c;rw [dY,dY];exact ih (a.actC x) (h.act a.ok x) (by simp only [ad] at b;omega) (List.pairwise_cons.1 c).2
 |swap x y l=> intro d N a h b c;simp only [ad] at b;rw [dY,dY,dY,dY];have h1:=(List.pairwise_cons.1 c).1 x List.mem_cons_self;rw [lw (h.act a.ok y) (by omega),lw h (by omega),lw (h.act a.ok x) (by omega),lw h (by omega),yl a.ok h1]
 |trans p1 p2 ih1 ih2=> intro d N a h b c;rw [ih1 a h b c];exact ih2 a h (by rw [<- p1.length_eq];exact b) ((p1.pairwise_iff gE.symm).1 c)
end
end Go.Proofs.YtjcimanddakkaaaGreatDoor
