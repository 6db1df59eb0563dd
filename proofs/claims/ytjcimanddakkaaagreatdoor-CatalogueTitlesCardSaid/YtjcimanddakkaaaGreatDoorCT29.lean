/- Lemmas. -/
import Derived.Test.YtjcimanddakkaaaGreatDoorCT9
set_option maxRecDepth 100000
set_option maxHeartbeats 8000000
namespace Go.Proofs.YtjcimanddakkaaaGreatDoor
section
open Go.RowKit
structure Low(d:aB)(N:Nat):Prop where
 v:∀p∈d.vs,0<=p.2.1/\p.2.1<=5
 s:∀p∈d.ds,0<=p.2/\p.2<=5
 p:∀p∈d.ps,0<=p.2.1/\p.2.1<=5
 lv:d.vs<=N
 ls:d.ds<=N
 lp:d.ps<=N
theorem Dz:Low cat0 0:=⟨by simp[cat0],by simp[cat0],by simp[cat0],by simp[cat0],by simp[cat0],by simp[cat0]⟩
theorem Low.more{d:aB}{N:Nat}(h:Low d N):Low d (N+1):=⟨h.v,h.s,h.p,by have:=h.lv;omega,by have:=h.ls;omega,by have:=h.lp;omega⟩
theorem CJ(d:aB)(k:RK)(n:Int)(r:aG):(putC d k n r).1=d∨wrongR r=0/\(putC d k n r).1={d with vs:=insL ltRK d.vs k (n,r)}:=by
 unfold putC;split
 .exact .inl rfl
 rename_i a;have a:wrongR r=0:=Classical.not_not.1 a;dsimp only;repeat' split
 all_goals first|exact .inl rfl|exact .inr ⟨a,rfl⟩
theorem BV(d:aB)(k:RK)(n:Int):(dropC d k n).1=d∨(dropC d k n).1={d with ds:=insL ltRK d.ds k n}:=by
 unfold dropC;dsimp only;repeat' split
 all_goals first|exact .inl rfl|exact .inr rfl
theorem xJ(d:aB)(a b:RK)(n:Int)(j:Bool):(decideC d a b n j).1=d∨(decideC d a b n j).1={d with ps:=insL ltPK d.ps (pairK a b) (n,j)}:=by
 unfold decideC;split
 .exact .inl rfl
 dsimp only;repeat' split
 all_goals first|exact .inl rfl|exact .inr rfl
theorem Low.put{d:aB}{N:Nat}(h:Low d N)(a:d.Ok)(k:RK){n:Int}(hn:0<=n/\n<=5)(r:aG):Low (putC d k n r).1 (N+1):=by
 rcases CJ d k n r with e|⟨_,e⟩
 .rw[e];exact h.more
 rw[e];refine⟨cZ (R:=λp=>0<=p.2.1/\p.2.1<=5) aY a.vs h.v hn,h.s,h.p,?_,?_,?_⟩
 .have:=fv (lt:=ltRK) d.vs k (n,r);have:=h.lv;show(insL ltRK d.vs k (n,r)).length<=_;omega
 .have:=h.ls;show d.ds.length<=_;omega
 have:=h.lp;show d.ps.length<=_;omega
theorem Low.drop{d:aB}{N:Nat}(h:Low d N)(a:d.Ok)(k:RK){n:Int}(hn:0<=n/\n<=5):Low (dropC d k n).1 (N+1):=by
 rcases BV d k n with e|e
 .rw[e];exact h.more
 rw[e];refine⟨h.v,cZ (R:=λp=>0<=p.2/\p.2<=5) aY a.ds h.s hn,h.p,?_,?_,?_⟩
 .have:=h.lv;show d.vs.length<=_;omega
 .have:=fv (lt:=ltRK) d.ds k n;have:=h.ls;show(insL ltRK d.ds k n).length<=_;omega
 have:=h.lp;show d.ps.length<=_;omega
theorem Low.dec{d:aB}{N:Nat}(h:Low d N)(c:d.Ok)(a b:RK){n:Int}(hn:0<=n/\n<=5)(j:Bool):Low (decideC d a b n j).1 (N+1):=by
 rcases xJ d a b n j with e|e
 .rw[e];exact h.more
 rw[e];refine⟨h.v,h.s,cZ (R:=λp=>0<=p.2.1/\p.2.1<=5) dQ c.ps h.p hn,?_,?_,?_⟩
 .have:=h.lv;show d.vs.length<=_;omega
 .have:=h.ls;show d.ds.length<=_;omega
 have:=fv (lt:=ltPK) d.ps (pairK a b) (n,j);have:=h.lp;show(insL ltPK d.ps (pairK a b) (n,j)).length<=_;omega
def yearsL:List Bs:=[[],[49,57,56,52],[49,57,56,53],[49,57,57,48],[99,49,57,56,52,46],[49,57,56],[56,52,32,49,57,57,57,32,49,57,56,52],[120]]
def booksL:List Bs:=[[],[57,55,56,51,49,54,49,52,56,52,49,48,48],[57,55,56,45,51,45,49,54,45,49,52,56,52,49,48,45,48,32,40,112,98,107,41],[51,49,54,49,52,56,52,49,48,88],[48,51,48,54,52,48,54,49,53,50],[57,55,56,48,51,48,54,52,48,54,49,53,55],[49,50,51]]
def namesL:List Bs:=[[],[77,195,188,108,108,101,114,44,32,65,110,110,97],[77,117,108,108,101,114,44,32,65,110,110,97],[77,85,76,76,69,82,32,65,46],[71,195,182,100,101,108,44,32,75,117,114,116],[45]]
def titlesL:List Bs:=[[84,104,101,32,115,116,97,114,115],[116,104,101,32,83,84,65,82,83,33],[83,116,97,114,115],[],[195,156,98,101,114,32,97,108,108,101,115],[85,98,101,114,44,32,97,108,108,101,115]]
def textsL:List Bs:=[[],[31],[30],[97,29,98],[255],[195],[237,160,128],[224,128,128],[127],[195,169],[116,97,98,9]]
def iW:List Bs:=[[48,48,48],[50,52],[50,52,53,53],[50,52,97],[],[48,48,49],[50,52,53]]
def ie:List Bs:=[[],[49],[49,50,51],[31,48],[32,126],[48,127]]
def inds3L:List Bs:=[[48,48],[48,52],[49,120]]
def pick(l:List Bs)(n:Int):Bs:=l.getD (n.emod l).toNat []
def u8I(n:Int):UInt8:=UInt8.ofNat (n.emod 256).toNat
structure Six where
 a:Int
 b:Int
 c:Int
 d:Int
 e:Int
 f:Int
def made008(n:Int):List ag:=if n.tmod 2=0 then[⟨lZ,[],[56,53,48,49,48,49,115]++pick yearsL n++[32,32,32,32,120,120],[]⟩]else[]
def gE(n:Int)(i:Nat):ag:=⟨dh,[32,32],[],[⟨if n.emod 7=6 then 122 else 97,pick booksL (n.tdiv 3+i)⟩]⟩
def gm(n:Int):List ag:=(List.range (n.emod 3).toNat).map (gE n)
def eT(n:Int):List ag:=if n.tmod 4≠0 then[⟨ek,[49,32],[],[⟨97,pick namesL (n.tdiv 4)⟩]⟩]else[]
def eS(n:Int):List ag:=if n.tmod 5≠0 then[⟨cA,pick inds3L n,[],[⟨97,pick titlesL (n.tdiv 5)⟩,⟨99,[98,121]⟩]⟩]else[]
def eR(n:Int):List ag:=if n.tmod 3≠0 then[⟨lY,[32,32],[],[⟨97,[80,97,114,105,115,32,49,57,48,48]⟩,⟨99,pick yearsL n⟩]⟩]else[]
def madeR(q:Six):aG:=⟨if q.a.emod 5=4 then 109 else 97,109,made008 q.b++gm q.c++eT q.d++eS q.e++eR q.f⟩
def gU(f:ag)(n b c:Int):ag:=
 if n=2 then{f with tag:=pick iW c}
 else if n=3 then{f with data:=f.data++pick textsL c}
 else if n=4 then{f with ind:=pick ie c}
 else if n=5 then{f with subs:=[]}
 else if n=6 then{f with subs:=f.subs++[⟨u8I b,pick textsL c⟩]}
 else if n=7 then{f with subs:=f.subs++[⟨122,pick textsL c⟩]}
 else f
def spoilR(r:aG)(n b c:Int):aG:=
 if r.fields=[]then⟨u8I b,r.level,[]⟩
 else if n=0 then⟨u8I c,r.level,r.fields⟩
 else if n=1 then⟨r.kind,u8I c,r.fields⟩
 else⟨r.kind,r.level,r.fields.modify (b.emod r.fields).toNat λf=>gU f n b c⟩
structure dP where
 k:Int
 a:Int
 b:Int
 v:Int
 q:Six
def workQ(n:Int):Six:=if n.emod 4=0 then⟨0,2,1,5,6,0⟩else if n.emod 4=1 then⟨0,2,0,5,6,1⟩else if n.emod 4=2 then⟨0,4,4,9,21,1⟩else⟨0,1,0,9,21,2⟩
def saidR(x:dP):aG:=
 let r:=madeR (if x.b.tmod 3≠0 then workQ x.b else x.q)
 if x.k.emod 8=4/\x.b.tmod 5=0 then spoilR r (x.a.emod 8) x.b x.v else r
def actC(d:aB)(x:dP):aB×Int:=
 if x.k.emod 8=5 then dropC d (recI x.a) (x.v.emod 6)
 else if x.k.emod 8=6 then decideC d (recI x.a) (recI x.b) (x.v.emod 6) false
 else if x.k.emod 8=7 then decideC d (recI x.a) (recI x.b) (x.v.emod 6) true
 else putC d (recI x.a) (x.v.emod 6) (saidR x)
def runC(l:List dP)(d:aB):aB:=l.foldl (λd x=>(actC d x).1) d
def jC(l:List dP):aB:=runC (l.take 40) cat0
theorem wO(x:dP)(l:List dP)(d:aB):runC (x::l) d=runC l (actC d x).1:=rfl
theorem yT(l m:List dP)(d:aB):runC (l++m) d=runC m (runC l d):=List.foldl_append ..
theorem eN(n:Int):rkOk (recI n):=by
 have a:n.emod 3=n%3:=rfl;have b:(n.tdiv 3).emod 4=n.tdiv 3%4:=rfl;unfold recI rkOk i64B;rw[a,b];simp only[];omega
theorem yu(n:Int):0<=n.emod 6/\n.emod 6<=5:=by
 show 0<=n%6/\n%6<=5;omega
theorem jM(n:Int):i64B (n.emod 6):=by have:=yu n;unfold i64B;omega
theorem bp.putC{d:aB}(h:bp d){k:RK}{n:Int}{r:aG}(c:rkOk k)(hn:i64B n):bp (putC d k n r).1:=by
 by_cases hd:(Go.Proofs.YtjcimanddakkaaaGreatDoor.putC d k n r).1=d
 .rw[hd];exact h
 unfold Go.Proofs.YtjcimanddakkaaaGreatDoor.putC at hd ⊢;by_cases hr:wrongR r=0;rotate_left
 .rw[if_pos hr]at hd;exact absurd rfl hd
 rw[if_neg (by simp[hr])]at hd ⊢;dsimp only at hd ⊢
 have key:((findK d.vs k).isSome=false->d.vs.length<5000)->bp {d with vs:=insL ltRK d.vs k (n,r)}:=λe=>
  ⟨⟨ff aY h.ok.vs k _,h.ok.ds,h.ok.ps,h.ok.apart⟩,qp aY h.ok.vs k _ h.vlen e,h.dlen,h.plen,cZ (R:=λp=>wrongR p.2.2=0) aY h.ok.vs h.right hr,cZ (R:=λp=>i64B p.2.1) aY h.ok.vs h.vnum hn,h.dnum,h.pnum,cZ (R:=λp=>rkOk p.1) aY h.ok.vs h.vkey c,h.dkey,h.pkey⟩
 cases hf2:findK d.vs k with
 |some x=>
  rw[hf2]at hd key;dsimp only at hd ⊢;split at hd
  .rename_i a;rw[if_pos a];exact key (λb=>by cases b)
  exact absurd rfl hd
 |none=>
  rw[hf2]at hd key;dsimp only at hd ⊢;split at hd
  .rename_i a;rw[if_pos a];exact key (λ_=>gk a rfl)
  exact absurd rfl hd
theorem bp.dropC{d:aB}(h:bp d){k:RK}{n:Int}(a:rkOk k)(hn:i64B n):bp (dropC d k n).1:=by
 rw[qB];split
 .rename_i b;exact h.drop a hn b
 exact h
theorem bp.decideC{d:aB}(h:bp d){a b:RK}{n:Int}{j:Bool}(c:rkOk a)(e:rkOk b)(hn:i64B n):bp (decideC d a b n j).1:=by
 by_cases hab:a=b
 .unfold Go.Proofs.YtjcimanddakkaaaGreatDoor.decideC;rw[if_pos hab];exact h
 rw[kF _ _ _ _ _ hab];split
 .rename_i f;exact h.decide hab c e hn f
 exact h
theorem bp.actC{d:aB}(h:bp d)(x:dP):bp (actC d x).1:=by
 unfold Go.Proofs.YtjcimanddakkaaaGreatDoor.actC;split
 .exact h.dropC (eN _) (jM _)
 split
 .exact h.decideC (eN _) (eN _) (jM _)
 split
 .exact h.decideC (eN _) (eN _) (jM _)
 exact h.putC (eN _) (jM _)
theorem bp.run:∀(l:List dP){d:aB},bp d->bp (runC l d)
 |[],_,h=>h
 |x::l,_,h=>bp.run l (h.actC x)
theorem Low.act{d:aB}{N:Nat}(h:Low d N)(a:d.Ok)(x:dP):Low (Go.Proofs.YtjcimanddakkaaaGreatDoor.actC d x).1 (N+1):=by
 unfold Go.Proofs.YtjcimanddakkaaaGreatDoor.actC;split
 .exact h.drop a _ (yu _)
 split
 .exact h.dec a _ _ (yu _) _
 split
 .exact h.dec a _ _ (yu _) _
 exact h.put a _ (yu _) _
theorem Low.run:∀(l:List dP){d:aB}{N:Nat},bp d->Low d N->Low (runC l d) (N+l)
 |[],_,_,_,h=>h
 |x::l,_,N,ok,h=>by
  have:=Low.run l (ok.actC x) (h.act ok.ok x)
  rw[wO,List.length_cons,show N+(l.length+1)=N+1+l by omega]
  exact this
theorem yZ(l:List dP):Low (jC l) 40:=by
 have h:=Low.run (l.take 40) qI Dz;have:(l.take 40).length<=40:=by rw[List.length_take];omega
 exact⟨h.v,h.s,h.p,by have:=h.lv;unfold jC;omega,by have:=h.ls;unfold jC;omega,by have:=h.lp;unfold jC;omega⟩
def iL:Bs:=[78,97,110,97]
def oJ:Bs:=[71,101,114,109,105,110,97,108]
def ez(t:Bs):aG:=⟨97,109,[⟨ek,[49,32],[],[⟨97,[90,111,108,97]⟩]⟩,⟨cA,[49,48],[],[⟨97,t⟩]⟩]⟩
def CF:aB:=(putC cat0 (1,1) 1 (ez iL)).1
def CE:aB:=(putC CF (1,2) 1 (ez iL)).1
def wK:aB:=(putC CE (2,1) 1 (ez iL)).1
def lj:aB:=(putC wK (2,2) 1 (ez oJ)).1
def jz:aB:=(decideC lj (1,1) (2,1) 1 false).1
def yR:aB:=(decideC jz (2,2) (2,1) 1 true).1
def nv:aB:=(dropC yR (1,1) 2).1
theorem vu:(putC cat0 (1,1) 1 (ez iL)).2=0/\(putC CF (1,2) 1 (ez iL)).2=0/\(putC CE (2,1) 1 (ez iL)).2=0/\(putC wK (2,2) 1 (ez oJ)).2=0:=by decide+kernel
theorem ly:bQ lj=[(1,1),(2,2)]/\membersC lj (1,1)=[(1,1),(1,2),(2,1)]:=by decide+kernel
theorem ge:(decideC lj (1,1) (2,1) 1 false).2=0/\bQ jz=[(1,1),(2,1),(2,2)]/\membersC jz (1,1)=[(1,1),(1,2)]:=by decide+kernel
theorem dR:(decideC jz (2,2) (2,1) 1 true).2=0/\(dropC yR (1,1) 2).2=0/\bQ nv=[(1,2)]/\membersC nv (1,2)=[(1,2),(2,1),(2,2)]:=by decide+kernel
end
end Go.Proofs.YtjcimanddakkaaaGreatDoor
