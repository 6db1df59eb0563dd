/- Lemmas. -/
import Derived.Test.YtjcimanddakkaaaGreatDoorZ3
set_option maxRecDepth 100000
set_option maxHeartbeats 8000000
namespace Go.Proofs.YtjcimanddakkaaaGreatDoor
section
open Go.RowKit
def yearsL:List Bs:=[[],[49,57,56,52],[49,57,56,53],[49,57,57,48],[99,49,57,56,52,46],[49,57,56],[56,52,32,49,57,57,57,32,49,57,56,52],[120]]
def booksL:List Bs:=[[],[57,55,56,51,49,54,49,52,56,52,49,48,48],[57,55,56,45,51,45,49,54,45,49,52,56,52,49,48,45,48,32,40,112,98,107,41],[51,49,54,49,52,56,52,49,48,88],[48,51,48,54,52,48,54,49,53,50],[57,55,56,48,51,48,54,52,48,54,49,53,55],[49,50,51]]
def namesL:List Bs:=[[],[77,195,188,108,108,101,114,44,32,65,110,110,97],[77,117,108,108,101,114,44,32,65,110,110,97],[77,85,76,76,69,82,32,65,46],[71,195,182,100,101,108,44,32,75,117,114,116],[45]]
def titlesL:List Bs:=[[84,104,101,32,115,116,97,114,115],[116,104,101,32,83,84,65,82,83,33],[83,116,97,114,115],[],[195,156,98,101,114,32,97,108,108,101,115],[85,98,101,114,44,32,97,108,108,101,115]]
def textsL:List Bs:=[[],[31],[30],[97,29,98],[255],[195],[237,160,128],[224,128,128],[127],[195,169],[116,97,98,9]]
def iH:List Bs:=[[48,48,48],[50,52],[50,52,53,53],[50,52,97],[],[48,48,49],[50,52,53]]
def gL:List Bs:=[[],[49],[49,50,51],[31,48],[32,126],[48,127]]
def inds3L:List Bs:=[[48,48],[48,52],[49,120]]
def pick (l:List Bs) (n:Int):Bs:=l.getD (n.emod l.length).toNat []
def u8I (n:Int):UInt8:=UInt8.ofNat (n.emod 256).toNat
structure Six where
 a:Int
 b:Int
 c:Int
 d:Int
 e:Int
 f:Int
def made008 (n:Int):List af:=if n.tmod 2=0 then [⟨lp,[],[56,53,48,49,48,49,115]++pick yearsL n++[32,32,32,32,120,120],[]⟩] else []
def ge (n:Int) (i:Nat):af:=⟨ek,[32,32],[],[⟨if n.emod 7=6 then 122 else 97,pick booksL (n.tdiv 3+i)⟩]⟩
def fU (n:Int):List af:=(List.range (n.emod 3).toNat).map (ge n)
def eC (n:Int):List af:=if n.tmod 4≠0 then [⟨dW,[49,32],[],[⟨97,pick namesL (n.tdiv 4)⟩]⟩] else []
def eB (n:Int):List af:=if n.tmod 5≠0 then [⟨ci,pick inds3L n,[],[⟨97,pick titlesL (n.tdiv 5)⟩,⟨99,[98,121]⟩]⟩] else []
def eA (n:Int):List af:=if n.tmod 3≠0 then [⟨ln,[32,32],[],[⟨97,[80,97,114,105,115,32,49,57,48,48]⟩,⟨99,pick yearsL n⟩]⟩] else []
def madeR (q:Six):az:=⟨if q.a.emod 5=4 then 109 else 97,109,made008 q.b++fU q.c++eC q.d++eB q.e++eA q.f⟩
def gC (f:af) (n b c:Int):af:=
 if n=2 then {f with tag:=pick iH c}
 else if n=3 then {f with data:=f.data++pick textsL c}
 else if n=4 then {f with ind:=pick gL c}
 else if n=5 then {f with subs:=[]}
 else if n=6 then {f with subs:=f.subs++[⟨u8I b,pick textsL c⟩]}
 else if n=7 then {f with subs:=f.subs++[⟨122,pick textsL c⟩]}
 else f
def spoilR (r:az) (n b c:Int):az:=
 if r.fields=[] then ⟨u8I b,r.level,[]⟩
 else if n=0 then ⟨u8I c,r.level,r.fields⟩
 else if n=1 then ⟨r.kind,u8I c,r.fields⟩
 else ⟨r.kind,r.level,r.fields.modify (b.emod r.fields.length).toNat λf=>gC f n b c⟩
structure eG where
 k:Int
 a:Int
 b:Int
 v:Int
 q:Six
def workQ (n:Int):Six:=if n.emod 4=0 then ⟨0,2,1,5,6,0⟩ else if n.emod 4=1 then ⟨0,2,0,5,6,1⟩ else if n.emod 4=2 then ⟨0,4,4,9,21,1⟩ else ⟨0,1,0,9,21,2⟩
def saidR (x:eG):az:=
 let r:=madeR (if x.b.tmod 3≠0 then workQ x.b else x.q)
 if x.k.emod 8=4/\x.b.tmod 5=0 then spoilR r (x.a.emod 8) x.b x.v else r
def actC (d:aE) (x:eG):aE×Int:=
 if x.k.emod 8=5 then dropC d (recI x.a) (x.v.emod 6)
 else if x.k.emod 8=6 then decideC d (recI x.a) (recI x.b) (x.v.emod 6) false
 else if x.k.emod 8=7 then decideC d (recI x.a) (recI x.b) (x.v.emod 6) true
 else putC d (recI x.a) (x.v.emod 6) (saidR x)
def runC (l:List eG) (d:aE):aE:=l.foldl (λd x=>(actC d x).1) d
def playC (l:List eG):aE:=runC (l.take 40) cat0
theorem xP (l m:List eG) (d:aE):runC (l++m) d=runC m (runC l d):=List.foldl_append ..
theorem eZ (n:Int):rkOk (recI n):=by
 have a:n.emod 3=n%3:=rfl;have b:(n.tdiv 3).emod 4=n.tdiv 3%4:=rfl;unfold recI rkOk i64B;rw [a,b];simp only [];omega
theorem B7 (n:Int):0<=n.emod 6/\n.emod 6<=5:=by
 show 0<=n%6/\n%6<=5;omega
theorem js (n:Int):i64B (n.emod 6):=by have:=B7 n;unfold i64B;omega
theorem bf.putC {d:aE} (h:bf d) {k:RK} {n:Int} {r:az} (c:rkOk k) (f:i64B n):bf (putC d k n r).1:=by
 by_cases hd:(Go.Proofs.YtjcimanddakkaaaGreatDoor.putC d k n r).1=d
 · rw [hd];exact h
 · unfold Go.Proofs.YtjcimanddakkaaaGreatDoor.putC at hd ⊢;by_cases hr:wrongR r=0
   · rw [if_neg (by simp [hr])] at hd ⊢;dsimp only at hd ⊢
     have key:((findK d.vs k).isSome=false->d.vs.length<5000)->bf {d with vs:=insL ltRK d.vs k (n,r)}:=λe=>
      ⟨⟨eR aN h.ok.vs k _,h.ok.ds,h.ok.ps,h.ok.apart⟩,pL aN h.ok.vs k _ h.vlen e,h.dlen,h.plen,dv (R:=λp=>wrongR p.2.2=0) aN h.ok.vs h.right hr,dv (R:=λp=>i64B p.2.1) aN h.ok.vs h.vnum f,h.dnum,h.pnum,dv (R:=λp=>rkOk p.1) aN h.ok.vs h.vkey c,h.dkey,h.pkey⟩
     cases hf2:findK d.vs k with
     |some x=>
      rw [hf2] at hd key;dsimp only at hd ⊢;split at hd
      · rename_i a;rw [if_pos a];exact key (λb=>by cases b)
      · exact absurd rfl hd
     |none=>
      rw [hf2] at hd key;dsimp only at hd ⊢;split at hd
      · rename_i a;rw [if_pos a];exact key (λ_=>fT a rfl)
      · exact absurd rfl hd
   · rw [if_pos hr] at hd;exact absurd rfl hd
theorem bf.dropC {d:aE} (h:bf d) {k:RK} {n:Int} (a:rkOk k) (b:i64B n):bf (dropC d k n).1:=by
 rw [pR];split
 · rename_i c;exact h.drop a b c
 · exact h
theorem bf.decideC {d:aE} (h:bf d) {a b:RK} {n:Int} {j:Bool} (c:rkOk a) (e:rkOk b) (f:i64B n):bf (decideC d a b n j).1:=by
 by_cases hab:a=b
 · unfold Go.Proofs.YtjcimanddakkaaaGreatDoor.decideC;rw [if_pos hab];exact h
 · rw [jX _ _ _ _ _ hab];split
   · rename_i g;exact h.decide hab c e f g
   · exact h
theorem bf.actC {d:aE} (h:bf d) (x:eG):bf (actC d x).1:=by
 unfold Go.Proofs.YtjcimanddakkaaaGreatDoor.actC;split
 · exact h.dropC (eZ _) (js _)
 · split
   · exact h.decideC (eZ _) (eZ _) (js _)
   · split
     · exact h.decideC (eZ _) (eZ _) (js _)
     · exact h.putC (eZ _) (js _)
theorem bf.run:∀(l:List eG) {d:aE},bf d->bf (runC l d)
 |[],_,h=>h
 |x::l,_,h=>bf.run l (h.actC x)
def iz:Bs:=[78,97,110,97]
def nR:Bs:=[71,101,114,109,105,110,97,108]
def ee (t:Bs):az:=⟨97,109,[⟨dW,[49,32],[],[⟨97,[90,111,108,97]⟩]⟩,⟨ci,[49,48],[],[⟨97,t⟩]⟩]⟩
def Bc:aE:=(putC cat0 (1,1) 1 (ee iz)).1
def Bb:aE:=(putC Bc (1,2) 1 (ee iz)).1
def vK:aE:=(putC Bb (2,1) 1 (ee iz)).1
def kJ:aE:=(putC vK (2,2) 1 (ee nR)).1
def jh:aE:=(decideC kJ (1,1) (2,1) 1 false).1
def xM:aE:=(decideC jh (2,2) (2,1) 1 true).1
def mS:aE:=(dropC xM (1,1) 2).1
theorem uE:(putC cat0 (1,1) 1 (ee iz)).2=0/\(putC Bc (1,2) 1 (ee iz)).2=0/\(putC Bb (2,1) 1 (ee iz)).2=0/\(putC vK (2,2) 1 (ee nR)).2=0:=by decide+kernel
theorem kP:cW kJ=[(1,1),(2,2)]/\membersC kJ (1,1)=[(1,1),(1,2),(2,1)]:=by decide+kernel
theorem fN:(decideC kJ (1,1) (2,1) 1 false).2=0/\cW jh=[(1,1),(2,1),(2,2)]/\membersC jh (1,1)=[(1,1),(1,2)]:=by decide+kernel
theorem dA:(decideC jh (2,2) (2,1) 1 true).2=0/\(dropC xM (1,1) 2).2=0/\cW mS=[(1,2)]/\membersC mS (1,2)=[(1,2),(2,1),(2,2)]:=by decide+kernel
end
end Go.Proofs.YtjcimanddakkaaaGreatDoor
