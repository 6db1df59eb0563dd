/- Lemmas. -/
import Derived.Test.YtjcimanddakkaaaGreatDoorY3
set_option maxRecDepth 100000
set_option maxHeartbeats 8000000
namespace Go.Proofs.YtjcimanddakkaaaGreatDoor
open _root_.Option renaming some→X
section
open Go.RowKit
theorem iY {a b:Bool} {e d:Int} {c:Nat} (f:a=true->b=false/\e<d) (h:c<5000):aL a b e d c=0:=by
 unfold aL;cases a
 · simp;omega
 · obtain ⟨g,i⟩:=f rfl;subst g;simp;omega
theorem zG {d:aq} {k:RK} {n:Int} (h:∀m,findK d.ds k=X m->m<n) (a:d.ds.length<5000):dropC d k n=({d with ds:=insL ltRK d.ds k n},0):=by
 unfold dropC;dsimp only;cases hf:findK d.ds k with
 |none=> have e:aL false false 0 n d.ds.length=0:=iY (λh=>by cases h) a;dsimp only;rw [if_pos e]
 |some m=> have:=h m hf;have e:aL true (decide (m=n)) m n d.ds.length=0:=iY (λ_=>⟨by rw [decide_eq_false];omega,this⟩) a;dsimp only;rw [if_pos e]
theorem wS {d:aq} {k:RK} {n:Int} {r:az} (b:wrongR r=0) (h:∀m s,findK d.vs k=X (m,s)->m<n) (a:d.vs.length<5000):putC d k n r=({d with vs:=insL ltRK d.vs k (n,r)},0):=by
 unfold putC;rw [if_neg (by simp [b])];dsimp only;cases hf:findK d.vs k with
 |none=> have e:aL false false 0 n d.vs.length=0:=iY (λh=>by cases h) a;dsimp only;rw [if_pos e]
 |some m=> obtain ⟨m,s⟩:=m;have:=h m s hf;have e:aL true (decide (m=n)&&decide (s=r)) m n d.vs.length=0:=iY (λ_=>⟨by rw [decide_eq_false (show m≠n by omega)];rfl,this⟩) a;dsimp only;rw [if_pos e]
theorem uT {b a:Int} {c:Nat} (h:a<=b):aL true false b a c=30:=by
 unfold aL;simp [h]
theorem sW {d:aq} {k:RK} {n:Int} (h:findK d.ds k=X n):dropC d k n=(d,22):=by
 have e:aL true (decide (n=n)) n n d.ds.length=22:=by rw [decide_eq_true rfl];rfl
 unfold dropC;dsimp only;rw [h];dsimp only;rw [if_neg (by rw [e];decide),e]
theorem xQ {d:aq} {k:RK} {m n:Int} (h:findK d.ds k=X m) (a:n<m):dropC d k n=(d,30):=by
 have e:aL true (decide (m=n)) m n d.ds.length=30:=by rw [decide_eq_false (show m≠n by omega)];exact uT (by omega)
 unfold dropC;dsimp only;rw [h];dsimp only;rw [if_neg (by rw [e];decide),e]
theorem uO {d:aq} {k:RK} {n:Int} {r:az} (a:wrongR r=0) (h:findK d.vs k=X (n,r)):putC d k n r=(d,22):=by
 have e:aL true (decide (n=n)&&decide (r=r)) n n d.vs.length=22:=by rw [decide_eq_true rfl,decide_eq_true rfl];rfl
 unfold putC;rw [if_neg (by simp [a])];dsimp only;rw [h];dsimp only;rw [if_neg (by rw [e];decide),e]
structure Low (d:aq) (N:Nat):Prop where
 v:∀p∈d.vs,0<=p.2.1/\p.2.1<=5
 s:∀p∈d.ds,0<=p.2/\p.2<=5
 p:∀p∈d.ps,0<=p.2.1/\p.2.1<=5
 lv:d.vs.length<=N
 ls:d.ds.length<=N
 lp:d.ps.length<=N
theorem Br:Low cat0 0:=⟨by simp [cat0],by simp [cat0],by simp [cat0],by simp [cat0],by simp [cat0],by simp [cat0]⟩
theorem Low.more {d:aq} {N:Nat} (h:Low d N):Low d (N+1):=⟨h.v,h.s,h.p,by have:=h.lv;omega,by have:=h.ls;omega,by have:=h.lp;omega⟩
theorem sh (d:aq) (k:RK) (n:Int) (r:az):(putC d k n r).1=d∨wrongR r=0/\(putC d k n r).1={d with vs:=insL ltRK d.vs k (n,r)}:=by
 unfold putC;split
 · exact .inl rfl
 · rename_i a;have a:wrongR r=0:=Classical.not_not.1 a;dsimp only;repeat' split
   all_goals first |exact .inl rfl|exact .inr ⟨a,rfl⟩
theorem uf (d:aq) (k:RK) (n:Int):(dropC d k n).1=d∨(dropC d k n).1={d with ds:=insL ltRK d.ds k n}:=by
 unfold dropC;dsimp only;repeat' split
 all_goals first |exact .inl rfl|exact .inr rfl
theorem vA (d:aq) (a b:RK) (n:Int) (j:Bool):(decideC d a b n j).1=d∨(decideC d a b n j).1={d with ps:=insL ltPK d.ps (pairK a b) (n,j)}:=by
 unfold decideC;split
 · exact .inl rfl
 · dsimp only;repeat' split
   all_goals first |exact .inl rfl|exact .inr rfl
theorem Low.put {d:aq} {N:Nat} (h:Low d N) (b:d.Ok) (k:RK) {n:Int} (a:0<=n/\n<=5) (r:az):Low (putC d k n r).1 (N+1):=by
 rcases sh d k n r with e|⟨_,e⟩
 · rw [e];exact h.more
 · rw [e];refine ⟨cN (R:=λp=>0<=p.2.1/\p.2.1<=5) aK b.vs h.v a,h.s,h.p,?_,?_,?_⟩
   · have:=dA (lt:=ltRK) d.vs k (n,r);have:=h.lv;show (insL ltRK d.vs k (n,r)).length<=_;omega
   · have:=h.ls;show d.ds.length<=_;omega
   · have:=h.lp;show d.ps.length<=_;omega
theorem Low.drop {d:aq} {N:Nat} (h:Low d N) (b:d.Ok) (k:RK) {n:Int} (a:0<=n/\n<=5):Low (dropC d k n).1 (N+1):=by
 rcases uf d k n with e|e
 · rw [e];exact h.more
 · rw [e];refine ⟨h.v,cN (R:=λp=>0<=p.2/\p.2<=5) aK b.ds h.s a,h.p,?_,?_,?_⟩
   · have:=h.lv;show d.vs.length<=_;omega
   · have:=dA (lt:=ltRK) d.ds k n;have:=h.ls;show (insL ltRK d.ds k n).length<=_;omega
   · have:=h.lp;show d.ps.length<=_;omega
theorem Low.dec {d:aq} {N:Nat} (h:Low d N) (f:d.Ok) (a b:RK) {n:Int} (c:0<=n/\n<=5) (j:Bool):Low (decideC d a b n j).1 (N+1):=by
 rcases vA d a b n j with e|e
 · rw [e];exact h.more
 · rw [e];refine ⟨h.v,h.s,cN (R:=λp=>0<=p.2.1/\p.2.1<=5) dt f.ps h.p c,?_,?_,?_⟩
   · have:=h.lv;show d.vs.length<=_;omega
   · have:=h.ls;show d.ds.length<=_;omega
   · have:=dA (lt:=ltPK) d.ps (pairK a b) (n,j);have:=h.lp;show (insL ltPK d.ps (pairK a b) (n,j)).length<=_;omega
theorem vX {L:VL} {k:RK}:(atC L k).isSome=true↔∃p∈L,p.1=k:=by
 cases h:atC L k with
 |some i=> obtain ⟨a,c⟩:=at_some h;exact ⟨λ_=>⟨L[i],List.getElem_mem a,by rw [<- bQ a];exact c⟩,λ_=>rfl⟩
 |none=> refine ⟨λh=>(by cases h),?_⟩;rintro ⟨p,e,d⟩;obtain ⟨i,b,rfl⟩:=List.mem_iff_getElem.1 e;exact absurd (by rw [bQ b];exact d) (at_none h i b)
theorem iM {d:aq} (h:d.Ok) (k:RK):(titleC d k).isSome=true↔∃p∈thereC d,p.1=k:=by
 rw [kN h,Option.isSome_map,vX]
theorem kP {d:aq} {p:RK×(Int×az)}:p∈thereC d↔p∈d.vs/\∀m,findK d.ds p.1=X m->m<=p.2.1:=by
 unfold thereC;rw [List.mem_filter];refine and_congr_right λ_=>?_;cases findK d.ds p.1 with
 |none=>simp
 |some m=>simp
theorem AD {d:aq} (h:d.Ok) (k:RK) (v:Int×az):({d with vs:=insL ltRK d.vs k v}:aq).Ok:=⟨cM aK h.vs k v,h.ds,h.ps,h.apart⟩
theorem yO {d:aq} (h:d.Ok) (k:RK) (n:Int):({d with ds:=insL ltRK d.ds k n}:aq).Ok:=⟨h.vs,cM aK h.ds k n,h.ps,h.apart⟩
structure zY (d:aq) (k:RK) (dr pt:Int) (r:az) (d1 d2 q1:aq):Prop where
 drop:dropC d k dr=(d1,0)
 gone:titleC d1 k=none
 put:putC d1 k pt r=(d2,0)
 put':putC d k pt r=(q1,0)
 back:(titleC d2 k).isSome=decide (dr<=pt)
 same:dr<=pt->sameC d2=sameC q1
 twice:dropC d2 k dr=(d2,22)
 old:dropC d2 k (dr - 1)=(d2,30)
 again:putC d2 k pt r=(d2,22)
theorem zF {d:aq} (h:d.Ok) {N:Nat} (f:Low d N) (F:N<5000) (k:RK) {c b:Int} (D:10<=c) (E:10<=b) {r:az} (o:wrongR r=0):∃z A C,zY d k c b r z A C:=by
 have x:∀m,findK d.ds k=X m->m<=5:=λm a=>(f.s _ ((cR aK h.ds).1 a)).2;have y:∀m s,findK d.vs k=X (m,s)->m<=5:=λm s a=>(f.v _ ((cR aK h.vs).1 a)).2;have i:findK (insL ltRK d.ds k c) k=X c:=by rw [lH aK h.ds,if_pos rfl]
 have w:=yO h k c;have B:=AD w k (b,r);refine ⟨{d with ds:=insL ltRK d.ds k c},{d with vs:=insL ltRK d.vs k (b,r),ds:=insL ltRK d.ds k c},{d with vs:=insL ltRK d.vs k (b,r)},?_⟩;refine ⟨zG (λm a=>by have:=x m a;omega) (by have:=f.ls;omega),?_,wS (d:={d with ds:=insL ltRK d.ds k c}) o (λm s a=>by have:=y m s a;omega) (by have:=f.lv;show d.vs.length<_;omega),wS o (λm s a=>by have:=y m s a;omega) (by have:=f.lv;omega),?_,?_,sW i,xQ i (by omega),uO o (by show findK (insL ltRK d.vs k (b,r)) k=_;rw [lH aK h.vs,if_pos rfl])⟩
 · cases q:titleC {d with ds:=insL ltRK d.ds k c} k with
   |none=>rfl
   |some t=> obtain ⟨p,e,j⟩:=(iM w k).1 (by rw [q];rfl);obtain ⟨l,g⟩:=kP.1 e;have:=g c (by rw [j];exact i);have:=f.v p l;omega
 · rw [Bool.eq_iff_iff,iM B,decide_eq_true_eq];constructor
   · rintro ⟨p,e,j⟩;obtain ⟨l,g⟩:=kP.1 e;have g:=g c (by rw [j];exact i);rcases (eu aK h.vs k (b,r) p).1 l with rfl|⟨_,n⟩
     · exact g
     · exact absurd j n
   · intro u;refine ⟨(k,(b,r)),kP.2 ⟨(eu aK h.vs k (b,r) _).2 (.inl rfl),λm a=>?_⟩,rfl⟩;have a:findK (insL ltRK d.ds k c) k=X m:=a;rw [i] at a;injection a with a
     show m<=b;omega
 · intro u;have q:thereC {d with vs:=insL ltRK d.vs k (b,r),ds:=insL ltRK d.ds k c}=thereC {d with vs:=insL ltRK d.vs k (b,r)}:=by
    unfold thereC;refine List.filter_congr λp e=>?_;have e:p∈insL ltRK d.vs k (b,r):=e;dsimp only;rw [lH aK h.ds];rcases (eu aK h.vs k (b,r) p).1 e with rfl|⟨_,n⟩
    · rw [if_pos rfl];dsimp only;rw [decide_eq_true u];cases hf:findK d.ds k with
      |none=>rfl
      |some m=>have:=x m hf;symm;exact decide_eq_true (by omega)
    · rw [if_neg n]
   unfold sameC setsC;rw [q]
def yearsL:List Bs:=[[],[49,57,56,52],[49,57,56,53],[49,57,57,48],[99,49,57,56,52,46],[49,57,56],[56,52,32,49,57,57,57,32,49,57,56,52],[120]]
def booksL:List Bs:=[[],[57,55,56,51,49,54,49,52,56,52,49,48,48],[57,55,56,45,51,45,49,54,45,49,52,56,52,49,48,45,48,32,40,112,98,107,41],[51,49,54,49,52,56,52,49,48,88],[48,51,48,54,52,48,54,49,53,50],[57,55,56,48,51,48,54,52,48,54,49,53,55],[49,50,51]]
def namesL:List Bs:=[[],[77,195,188,108,108,101,114,44,32,65,110,110,97],[77,117,108,108,101,114,44,32,65,110,110,97],[77,85,76,76,69,82,32,65,46],[71,195,182,100,101,108,44,32,75,117,114,116],[45]]
def titlesL:List Bs:=[[84,104,101,32,115,116,97,114,115],[116,104,101,32,83,84,65,82,83,33],[83,116,97,114,115],[],[195,156,98,101,114,32,97,108,108,101,115],[85,98,101,114,44,32,97,108,108,101,115]]
def textsL:List Bs:=[[],[31],[30],[97,29,98],[255],[195],[237,160,128],[224,128,128],[127],[195,169],[116,97,98,9]]
def io:List Bs:=[[48,48,48],[50,52],[50,52,53,53],[50,52,97],[],[48,48,49],[50,52,53]]
def gE:List Bs:=[[],[49],[49,50,51],[31,48],[32,126],[48,127]]
def inds3L:List Bs:=[[48,48],[48,52],[49,120]]
def pick (l:List Bs) (n:Int):Bs:=l.getD (n.emod l.length).toNat []
def u8I (n:Int):UInt8:=UInt8.ofNat (n.emod 256).toNat
structure Six where
 a:Int
 b:Int
 c:Int
 d:Int
 e:Int
 f:Int
def made008 (n:Int):List af:=if n.tmod 2=0 then [⟨kT,[],[56,53,48,49,48,49,115]++pick yearsL n++[32,32,32,32,120,120],[]⟩] else []
def fR (n:Int) (i:Nat):af:=⟨eb,[32,32],[],[⟨if n.emod 7=6 then 122 else 97,pick booksL (n.tdiv 3+i)⟩]⟩
def fI (n:Int):List af:=(List.range (n.emod 3).toNat).map (fR n)
def et (n:Int):List af:=if n.tmod 4≠0 then [⟨dR,[49,32],[],[⟨97,pick namesL (n.tdiv 4)⟩]⟩] else []
def ep (n:Int):List af:=if n.tmod 5≠0 then [⟨bZ,pick inds3L n,[],[⟨97,pick titlesL (n.tdiv 5)⟩,⟨99,[98,121]⟩]⟩] else []
def eo (n:Int):List af:=if n.tmod 3≠0 then [⟨kS,[32,32],[],[⟨97,[80,97,114,105,115,32,49,57,48,48]⟩,⟨99,pick yearsL n⟩]⟩] else []
def madeR (q:Six):az:=⟨if q.a.emod 5=4 then 109 else 97,109,made008 q.b++fI q.c++et q.d++ep q.e++eo q.f⟩
def gm (f:af) (n b c:Int):af:=
 if n=2 then {f with tag:=pick io c}
 else if n=3 then {f with data:=f.data++pick textsL c}
 else if n=4 then {f with ind:=pick gE c}
 else if n=5 then {f with subs:=[]}
 else if n=6 then {f with subs:=f.subs++[⟨u8I b,pick textsL c⟩]}
 else if n=7 then {f with subs:=f.subs++[⟨122,pick textsL c⟩]}
 else f
def spoilR (r:az) (n b c:Int):az:=
 if r.fields=[] then ⟨u8I b,r.level,[]⟩
 else if n=0 then ⟨u8I c,r.level,r.fields⟩
 else if n=1 then ⟨r.kind,u8I c,r.fields⟩
 else ⟨r.kind,r.level,r.fields.modify (b.emod r.fields.length).toNat λf=>gm f n b c⟩
structure dE where
 k:Int
 a:Int
 b:Int
 v:Int
 q:Six
def workQ (n:Int):Six:=if n.emod 4=0 then ⟨0,2,1,5,6,0⟩ else if n.emod 4=1 then ⟨0,2,0,5,6,1⟩ else if n.emod 4=2 then ⟨0,4,4,9,21,1⟩ else ⟨0,1,0,9,21,2⟩
def saidR (x:dE):az:=
 let r:=madeR (if x.b.tmod 3≠0 then workQ x.b else x.q)
 if x.k.emod 8=4/\x.b.tmod 5=0 then spoilR r (x.a.emod 8) x.b x.v else r
def actC (d:aq) (x:dE):aq×Int:=
 if x.k.emod 8=5 then dropC d (recI x.a) (x.v.emod 6)
 else if x.k.emod 8=6 then decideC d (recI x.a) (recI x.b) (x.v.emod 6) false
 else if x.k.emod 8=7 then decideC d (recI x.a) (recI x.b) (x.v.emod 6) true
 else putC d (recI x.a) (x.v.emod 6) (saidR x)
def runC (l:List dE) (d:aq):aq:=l.foldl (λd x=>(actC d x).1) d
def playC (l:List dE):aq:=runC (l.take 40) cat0
theorem uM (x:dE) (l:List dE) (d:aq):runC (x::l) d=runC l (actC d x).1:=rfl
theorem wM (l m:List dE) (d:aq):runC (l++m) d=runC m (runC l d):=List.foldl_append ..
theorem ek (n:Int):rkOk (recI n):=by
 have a:n.emod 3=n%3:=rfl;have b:(n.tdiv 3).emod 4=n.tdiv 3%4:=rfl;unfold recI rkOk i64B;rw [a,b];simp only [];omega
theorem wm (n:Int):0<=n.emod 6/\n.emod 6<=5:=by
 show 0<=n%6/\n%6<=5;omega
theorem je (n:Int):i64B (n.emod 6):=by have:=wm n;unfold i64B;omega
theorem aZ.putC {d:aq} (h:aZ d) {k:RK} {n:Int} {r:az} (c:rkOk k) (f:i64B n):aZ (putC d k n r).1:=by
 by_cases hd:(Go.Proofs.YtjcimanddakkaaaGreatDoor.putC d k n r).1=d
 · rw [hd];exact h
 · unfold Go.Proofs.YtjcimanddakkaaaGreatDoor.putC at hd ⊢;by_cases hr:wrongR r=0
   · rw [if_neg (by simp [hr])] at hd ⊢;dsimp only at hd ⊢
     have key:((findK d.vs k).isSome=false->d.vs.length<5000)->aZ {d with vs:=insL ltRK d.vs k (n,r)}:=λe=>
      ⟨⟨cM aK h.ok.vs k _,h.ok.ds,h.ok.ps,h.ok.apart⟩,oS aK h.ok.vs k _ h.vlen e,h.dlen,h.plen,cN (R:=λp=>wrongR p.2.2=0) aK h.ok.vs h.right hr,cN (R:=λp=>i64B p.2.1) aK h.ok.vs h.vnum f,h.dnum,h.pnum,cN (R:=λp=>rkOk p.1) aK h.ok.vs h.vkey c,h.dkey,h.pkey⟩
     cases hf2:findK d.vs k with
     |some x=>
      rw [hf2] at hd key;dsimp only at hd ⊢;split at hd
      · rename_i a;rw [if_pos a];exact key (λb=>by cases b)
      · exact absurd rfl hd
     |none=>
      rw [hf2] at hd key;dsimp only at hd ⊢;split at hd
      · rename_i a;rw [if_pos a];exact key (λ_=>fH a rfl)
      · exact absurd rfl hd
   · rw [if_pos hr] at hd;exact absurd rfl hd
theorem aZ.dropC {d:aq} (h:aZ d) {k:RK} {n:Int} (a:rkOk k) (b:i64B n):aZ (dropC d k n).1:=by
 rw [oX];split
 · rename_i c;exact h.drop a b c
 · exact h
theorem aZ.decideC {d:aq} (h:aZ d) {a b:RK} {n:Int} {j:Bool} (c:rkOk a) (e:rkOk b) (f:i64B n):aZ (decideC d a b n j).1:=by
 by_cases hab:a=b
 · unfold Go.Proofs.YtjcimanddakkaaaGreatDoor.decideC;rw [if_pos hab];exact h
 · rw [jI _ _ _ _ _ hab];split
   · rename_i g;exact h.decide hab c e f g
   · exact h
theorem aZ.actC {d:aq} (h:aZ d) (x:dE):aZ (actC d x).1:=by
 unfold Go.Proofs.YtjcimanddakkaaaGreatDoor.actC;split
 · exact h.dropC (ek _) (je _)
 · split
   · exact h.decideC (ek _) (ek _) (je _)
   · split
     · exact h.decideC (ek _) (ek _) (je _)
     · exact h.putC (ek _) (je _)
theorem aZ.run:∀(l:List dE) {d:aq},aZ d->aZ (runC l d)
 |[],_,h=>h
 |x::l,_,h=>aZ.run l (h.actC x)
theorem Low.act {d:aq} {N:Nat} (h:Low d N) (a:d.Ok) (x:dE):Low (Go.Proofs.YtjcimanddakkaaaGreatDoor.actC d x).1 (N+1):=by
 unfold Go.Proofs.YtjcimanddakkaaaGreatDoor.actC;split
 · exact h.drop a _ (wm _)
 · split
   · exact h.dec a _ _ (wm _) _
   · split
     · exact h.dec a _ _ (wm _) _
     · exact h.put a _ (wm _) _
theorem Low.run:∀(l:List dE) {d:aq} {N:Nat},aZ d->Low d N->Low (runC l d) (N+l.length)
 |[],_,_,_,h=>h
 |x::l,_,N,ok,h=>by
  have:=Low.run l (ok.actC x) (h.act ok.ok x)
  rw [uM,List.length_cons,show N+(l.length+1)=N+1+l.length by omega]
  exact this
theorem wU (l:List dE):Low (playC l) 40:=by
 have h:=Low.run (l.take 40) kF Br;have:(l.take 40).length<=40:=by rw [List.length_take];omega
 exact ⟨h.v,h.s,h.p,by have:=h.lv;unfold playC;omega,by have:=h.ls;unfold playC;omega,by have:=h.lp;unfold playC;omega⟩
theorem yJ (l:List dE):aZ (playC l):=aZ.run _ kF
def cF:Bs:=[78,97,110,97]
def lD:Bs:=[71,101,114,109,105,110,97,108]
def bN (t:Bs):az:=⟨97,109,[⟨dR,[49,32],[],[⟨97,[90,111,108,97]⟩]⟩,⟨bZ,[49,48],[],[⟨97,t⟩]⟩]⟩
def Au:aq:=(putC cat0 (1,1) 1 (bN cF)).1
def Ar:aq:=(putC Au (1,2) 1 (bN cF)).1
def uH:aq:=(putC Ar (2,1) 1 (bN cF)).1
def kg:aq:=(putC uH (2,2) 1 (bN lD)).1
def iR:aq:=(decideC kg (1,1) (2,1) 1 false).1
def wK:aq:=(decideC iR (2,2) (2,1) 1 true).1
def mz:aq:=(dropC wK (1,1) 2).1
theorem tL:(putC cat0 (1,1) 1 (bN cF)).2=0/\(putC Au (1,2) 1 (bN cF)).2=0/\(putC Ar (2,1) 1 (bN cF)).2=0/\(putC uH (2,2) 1 (bN lD)).2=0:=by decide+kernel
theorem ku:de kg=[(1,1),(2,2)]/\membersC kg (1,1)=[(1,1),(1,2),(2,1)]:=by decide+kernel
theorem fC:(decideC kg (1,1) (2,1) 1 false).2=0/\de iR=[(1,1),(2,1),(2,2)]/\membersC iR (1,1)=[(1,1),(1,2)]:=by decide+kernel
theorem du:(decideC iR (2,2) (2,1) 1 true).2=0/\(dropC wK (1,1) 2).2=0/\de mz=[(1,2)]/\membersC mz (1,2)=[(1,2),(2,1),(2,2)]:=by decide+kernel
theorem rN:wrongR (bN cF)=0/\wrongR (bN lD)=0:=by decide+kernel
end
end Go.Proofs.YtjcimanddakkaaaGreatDoor
