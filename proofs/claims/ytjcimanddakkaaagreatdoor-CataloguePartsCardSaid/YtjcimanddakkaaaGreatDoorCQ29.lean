/- Lemmas. -/
import Derived.Test.YtjcimanddakkaaaGreatDoorCQ9
set_option maxRecDepth 100000
set_option maxHeartbeats 8000000
namespace Go.Proofs.YtjcimanddakkaaaGreatDoor
section
open Go.RowKit
structure Low(d:ar)(N:Nat):Prop where
 v:∀p∈d.vs,0<=p.2.1/\p.2.1<=5
 s:∀p∈d.ds,0<=p.2/\p.2<=5
 p:∀p∈d.ps,0<=p.2.1/\p.2.1<=5
 lv:d.vs.length<=N
 ls:d.ds.length<=N
 lp:d.ps.length<=N
theorem C1:Low cat0 0:=⟨by simp[cat0],by simp[cat0],by simp[cat0],by simp[cat0],by simp[cat0],by simp[cat0]⟩
theorem Low.more{d:ar}{N:Nat}(h:Low d N):Low d (N+1):=⟨h.v,h.s,h.p,by have:=h.lv;omega,by have:=h.ls;omega,by have:=h.lp;omega⟩
theorem Cg(d:ar)(k:RK)(n:Int)(r:aA):(putC d k n r).1=d∨wrongR r=0/\(putC d k n r).1={d with vs:=insL ltRK d.vs k (n,r)}:=by
 unfold putC;split
 .exact .inl rfl
 rename_i a;have a:wrongR r=0:=Classical.not_not.1 a;dsimp only;repeat' split
 all_goals first|exact .inl rfl|exact .inr ⟨a,rfl⟩
theorem Bt(d:ar)(k:RK)(n:Int):(dropC d k n).1=d∨(dropC d k n).1={d with ds:=insL ltRK d.ds k n}:=by
 unfold dropC;dsimp only;repeat' split
 all_goals first|exact .inl rfl|exact .inr rfl
theorem xn(d:ar)(a b:RK)(n:Int)(j:Bool):(decideC d a b n j).1=d∨(decideC d a b n j).1={d with ps:=insL ltPK d.ps (pairK a b) (n,j)}:=by
 unfold decideC;split
 .exact .inl rfl
 dsimp only;repeat' split
 all_goals first|exact .inl rfl|exact .inr rfl
theorem Low.put{d:ar}{N:Nat}(h:Low d N)(a:d.Ok)(k:RK){n:Int}(hn:0<=n/\n<=5)(r:aA):Low (putC d k n r).1 (N+1):=by
 rcases Cg d k n r with e|⟨_,e⟩
 .rw[e];exact h.more
 rw[e];refine⟨cR (R:=λp=>0<=p.2.1/\p.2.1<=5) aW a.vs h.v hn,h.s,h.p,?_,?_,?_⟩
 .have:=fg (lt:=ltRK) d.vs k (n,r);have:=h.lv;show(insL ltRK d.vs k (n,r)).length<=_;omega
 .have:=h.ls;show d.ds.length<=_;omega
 have:=h.lp;show d.ps.length<=_;omega
theorem Low.drop{d:ar}{N:Nat}(h:Low d N)(a:d.Ok)(k:RK){n:Int}(hn:0<=n/\n<=5):Low (dropC d k n).1 (N+1):=by
 rcases Bt d k n with e|e
 .rw[e];exact h.more
 rw[e];refine⟨h.v,cR (R:=λp=>0<=p.2/\p.2<=5) aW a.ds h.s hn,h.p,?_,?_,?_⟩
 .have:=h.lv;show d.vs.length<=_;omega
 .have:=fg (lt:=ltRK) d.ds k n;have:=h.ls;show(insL ltRK d.ds k n).length<=_;omega
 have:=h.lp;show d.ps.length<=_;omega
theorem Low.dec{d:ar}{N:Nat}(h:Low d N)(c:d.Ok)(a b:RK){n:Int}(hn:0<=n/\n<=5)(j:Bool):Low (decideC d a b n j).1 (N+1):=by
 rcases xn d a b n j with e|e
 .rw[e];exact h.more
 rw[e];refine⟨h.v,h.s,cR (R:=λp=>0<=p.2.1/\p.2.1<=5) dG c.ps h.p hn,?_,?_,?_⟩
 .have:=h.lv;show d.vs.length<=_;omega
 .have:=h.ls;show d.ds.length<=_;omega
 have:=fg (lt:=ltPK) d.ps (pairK a b) (n,j);have:=h.lp;show(insL ltPK d.ps (pairK a b) (n,j)).length<=_;omega
def yearsL:List Bs:=[[],[49,57,56,52],[49,57,56,53],[49,57,57,48],[99,49,57,56,52,46],[49,57,56],[56,52,32,49,57,57,57,32,49,57,56,52],[120]]
def booksL:List Bs:=[[],[57,55,56,51,49,54,49,52,56,52,49,48,48],[57,55,56,45,51,45,49,54,45,49,52,56,52,49,48,45,48,32,40,112,98,107,41],[51,49,54,49,52,56,52,49,48,88],[48,51,48,54,52,48,54,49,53,50],[57,55,56,48,51,48,54,52,48,54,49,53,55],[49,50,51]]
def namesL:List Bs:=[[],[77,195,188,108,108,101,114,44,32,65,110,110,97],[77,117,108,108,101,114,44,32,65,110,110,97],[77,85,76,76,69,82,32,65,46],[71,195,182,100,101,108,44,32,75,117,114,116],[45]]
def titlesL:List Bs:=[[84,104,101,32,115,116,97,114,115],[116,104,101,32,83,84,65,82,83,33],[83,116,97,114,115],[],[195,156,98,101,114,32,97,108,108,101,115],[85,98,101,114,44,32,97,108,108,101,115]]
def textsL:List Bs:=[[],[31],[30],[97,29,98],[255],[195],[237,160,128],[224,128,128],[127],[195,169],[116,97,98,9]]
def iO:List Bs:=[[48,48,48],[50,52],[50,52,53,53],[50,52,97],[],[48,48,49],[50,52,53]]
def gX:List Bs:=[[],[49],[49,50,51],[31,48],[32,126],[48,127]]
def inds3L:List Bs:=[[48,48],[48,52],[49,120]]
def pick(l:List Bs)(n:Int):Bs:=l.getD (n.emod l.length).toNat []
def u8I(n:Int):UInt8:=UInt8.ofNat (n.emod 256).toNat
structure Six where
 a:Int
 b:Int
 c:Int
 d:Int
 e:Int
 f:Int
def made008(n:Int):List af:=if n.tmod 2=0 then[⟨lV,[],[56,53,48,49,48,49,115]++pick yearsL n++[32,32,32,32,120,120],[]⟩]else[]
def gu(n:Int)(i:Nat):af:=⟨cZ,[32,32],[],[⟨if n.emod 7=6 then 122 else 97,pick booksL (n.tdiv 3+i)⟩]⟩
def gc(n:Int):List af:=(List.range (n.emod 3).toNat).map (gu n)
def eE(n:Int):List af:=if n.tmod 4≠0 then[⟨dY,[49,32],[],[⟨97,pick namesL (n.tdiv 4)⟩]⟩]else[]
def eD(n:Int):List af:=if n.tmod 5≠0 then[⟨ck,pick inds3L n,[],[⟨97,pick titlesL (n.tdiv 5)⟩,⟨99,[98,121]⟩]⟩]else[]
def eC(n:Int):List af:=if n.tmod 3≠0 then[⟨lU,[32,32],[],[⟨97,[80,97,114,105,115,32,49,57,48,48]⟩,⟨99,pick yearsL n⟩]⟩]else[]
def madeR(q:Six):aA:=⟨if q.a.emod 5=4 then 109 else 97,109,made008 q.b++gc q.c++eE q.d++eD q.e++eC q.f⟩
def gM(f:af)(n b c:Int):af:=
 if n=2 then{f with tag:=pick iO c}
 else if n=3 then{f with data:=f.data++pick textsL c}
 else if n=4 then{f with ind:=pick gX c}
 else if n=5 then{f with subs:=[]}
 else if n=6 then{f with subs:=f.subs++[⟨u8I b,pick textsL c⟩]}
 else if n=7 then{f with subs:=f.subs++[⟨122,pick textsL c⟩]}
 else f
def spoilR(r:aA)(n b c:Int):aA:=
 if r.fields=[]then⟨u8I b,r.level,[]⟩
 else if n=0 then⟨u8I c,r.level,r.fields⟩
 else if n=1 then⟨r.kind,u8I c,r.fields⟩
 else⟨r.kind,r.level,r.fields.modify (b.emod r.fields.length).toNat λf=>gM f n b c⟩
structure dg where
 k:Int
 a:Int
 b:Int
 v:Int
 q:Six
def workQ(n:Int):Six:=if n.emod 4=0 then⟨0,2,1,5,6,0⟩else if n.emod 4=1 then⟨0,2,0,5,6,1⟩else if n.emod 4=2 then⟨0,4,4,9,21,1⟩else⟨0,1,0,9,21,2⟩
def saidR(x:dg):aA:=
 let r:=madeR (if x.b.tmod 3≠0 then workQ x.b else x.q)
 if x.k.emod 8=4/\x.b.tmod 5=0 then spoilR r (x.a.emod 8) x.b x.v else r
def actC(d:ar)(x:dg):ar×Int:=
 if x.k.emod 8=5 then dropC d (recI x.a) (x.v.emod 6)
 else if x.k.emod 8=6 then decideC d (recI x.a) (recI x.b) (x.v.emod 6) false
 else if x.k.emod 8=7 then decideC d (recI x.a) (recI x.b) (x.v.emod 6) true
 else putC d (recI x.a) (x.v.emod 6) (saidR x)
def runC(l:List dg)(d:ar):ar:=l.foldl (λd x=>(actC d x).1) d
def playC(l:List dg):ar:=runC (l.take 40) cat0
theorem wv(x:dg)(l:List dg)(d:ar):runC (x::l) d=runC l (actC d x).1:=rfl
theorem yx(l m:List dg)(d:ar):runC (l++m) d=runC m (runC l d):=List.foldl_append ..
theorem fe(n:Int):rkOk (recI n):=by
 have a:n.emod 3=n%3:=rfl;have b:(n.tdiv 3).emod 4=n.tdiv 3%4:=rfl;unfold recI rkOk i64B;rw[a,b];simp only[];omega
theorem xZ(n:Int):0<=n.emod 6/\n.emod 6<=5:=by
 show 0<=n%6/\n%6<=5;omega
theorem jG(n:Int):i64B (n.emod 6):=by have:=xZ n;unfold i64B;omega
theorem bi.putC{d:ar}(h:bi d){k:RK}{n:Int}{r:aA}(c:rkOk k)(hn:i64B n):bi (putC d k n r).1:=by
 by_cases hd:(Go.Proofs.YtjcimanddakkaaaGreatDoor.putC d k n r).1=d
 .rw[hd];exact h
 unfold Go.Proofs.YtjcimanddakkaaaGreatDoor.putC at hd ⊢;by_cases hr:wrongR r=0;rotate_left
 .rw[if_pos hr]at hd;exact absurd rfl hd
 rw[if_neg (by simp[hr])]at hd ⊢;dsimp only at hd ⊢
 have key:((findK d.vs k).isSome=false->d.vs.length<5000)->bi {d with vs:=insL ltRK d.vs k (n,r)}:=λe=>
  ⟨⟨eP aW h.ok.vs k _,h.ok.ds,h.ok.ps,h.ok.apart⟩,p9 aW h.ok.vs k _ h.vlen e,h.dlen,h.plen,cR (R:=λp=>wrongR p.2.2=0) aW h.ok.vs h.right hr,cR (R:=λp=>i64B p.2.1) aW h.ok.vs h.vnum hn,h.dnum,h.pnum,cR (R:=λp=>rkOk p.1) aW h.ok.vs h.vkey c,h.dkey,h.pkey⟩
 cases hf2:findK d.vs k with
 |some x=>
  rw[hf2]at hd key;dsimp only at hd ⊢;split at hd
  .rename_i a;rw[if_pos a];exact key (λb=>by cases b)
  exact absurd rfl hd
 |none=>
  rw[hf2]at hd key;dsimp only at hd ⊢;split at hd
  .rename_i a;rw[if_pos a];exact key (λ_=>fZ a rfl)
  exact absurd rfl hd
theorem bi.dropC{d:ar}(h:bi d){k:RK}{n:Int}(a:rkOk k)(hn:i64B n):bi (dropC d k n).1:=by
 rw[ql];split
 .rename_i b;exact h.drop a hn b
 exact h
theorem bi.decideC{d:ar}(h:bi d){a b:RK}{n:Int}{j:Bool}(c:rkOk a)(e:rkOk b)(hn:i64B n):bi (decideC d a b n j).1:=by
 by_cases hab:a=b
 .unfold Go.Proofs.YtjcimanddakkaaaGreatDoor.decideC;rw[if_pos hab];exact h
 rw[kr _ _ _ _ _ hab];split
 .rename_i f;exact h.decide hab c e hn f
 exact h
theorem bi.actC{d:ar}(h:bi d)(x:dg):bi (actC d x).1:=by
 unfold Go.Proofs.YtjcimanddakkaaaGreatDoor.actC;split
 .exact h.dropC (fe _) (jG _)
 split
 .exact h.decideC (fe _) (fe _) (jG _)
 split
 .exact h.decideC (fe _) (fe _) (jG _)
 exact h.putC (fe _) (jG _)
theorem bi.run:∀(l:List dg){d:ar},bi d->bi (runC l d)
 |[],_,h=>h
 |x::l,_,h=>bi.run l (h.actC x)
theorem Low.act{d:ar}{N:Nat}(h:Low d N)(a:d.Ok)(x:dg):Low (Go.Proofs.YtjcimanddakkaaaGreatDoor.actC d x).1 (N+1):=by
 unfold Go.Proofs.YtjcimanddakkaaaGreatDoor.actC;split
 .exact h.drop a _ (xZ _)
 split
 .exact h.dec a _ _ (xZ _) _
 split
 .exact h.dec a _ _ (xZ _) _
 exact h.put a _ (xZ _) _
theorem Low.run:∀(l:List dg){d:ar}{N:Nat},bi d->Low d N->Low (runC l d) (N+l.length)
 |[],_,_,_,h=>h
 |x::l,_,N,ok,h=>by
  have:=Low.run l (ok.actC x) (h.act ok.ok x)
  rw[wv,List.length_cons,show N+(l.length+1)=N+1+l.length by omega]
  exact this
theorem yD(l:List dg):Low (playC l) 40:=by
 have h:=Low.run (l.take 40) lD C1;have:(l.take 40).length<=40:=by rw[List.length_take];omega
 exact⟨h.v,h.s,h.p,by have:=h.lv;unfold playC;omega,by have:=h.ls;unfold playC;omega,by have:=h.lp;unfold playC;omega⟩
theorem Az(l:List dg):bi (playC l):=bi.run _ lD
def iG:Bs:=[78,97,110,97]
def oy:Bs:=[71,101,114,109,105,110,97,108]
def eh(t:Bs):aA:=⟨97,109,[⟨dY,[49,32],[],[⟨97,[90,111,108,97]⟩]⟩,⟨ck,[49,48],[],[⟨97,t⟩]⟩]⟩
def Cc:ar:=(putC cat0 (1,1) 1 (eh iG)).1
def Cb:ar:=(putC Cc (1,2) 1 (eh iG)).1
def wm:ar:=(putC Cb (2,1) 1 (eh iG)).1
def lg:ar:=(putC wm (2,2) 1 (eh oy)).1
def jt:ar:=(decideC lg (1,1) (2,1) 1 false).1
def yv:ar:=(decideC jt (2,2) (2,1) 1 true).1
def nm:ar:=(dropC yv (1,1) 2).1
theorem vg:(putC cat0 (1,1) 1 (eh iG)).2=0/\(putC Cc (1,2) 1 (eh iG)).2=0/\(putC Cb (2,1) 1 (eh iG)).2=0/\(putC wm (2,2) 1 (eh oy)).2=0:=by decide+kernel
theorem lr:titlesC lg=[(1,1),(2,2)]/\membersC lg (1,1)=[(1,1),(1,2),(2,1)]:=by decide+kernel
theorem fV:(decideC lg (1,1) (2,1) 1 false).2=0/\titlesC jt=[(1,1),(2,1),(2,2)]/\membersC jt (1,1)=[(1,1),(1,2)]:=by decide+kernel
theorem dH:(decideC jt (2,2) (2,1) 1 true).2=0/\(dropC yv (1,1) 2).2=0/\titlesC nm=[(1,2)]/\membersC nm (1,2)=[(1,2),(2,1),(2,2)]:=by decide+kernel
end
end Go.Proofs.YtjcimanddakkaaaGreatDoor
