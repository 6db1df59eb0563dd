/- Lemmas. -/
import Derived.Test.YtjcimanddakkaaaGreatDoorCT0
import Derived.Test.YtjcimanddakkaaaGreatDoorCards
import Derived.Test.YtjcimanddakkaaaGreatDoorTie
import Derived.ProofKit
import Derived.OpenShut
import Derived.Deep.DeepHandedRow
import Derived.Lib.LaidCaseMet
import Derived.PinnedBridge
set_option maxRecDepth 100000
set_option maxHeartbeats 8000000
namespace Go.Proofs.YtjcimanddakkaaaGreatDoor
open _root_.Option renaming some→X,none→Y
open Go.Obj renaming cells→a0
open Go.IntKind renaming u8→a1
open Go.Value renaming slice→a2
open Go.Proofs.Tryz
section
open Go.RowKit Go.WideShapes Go.ChangeShapes Go.ChangeAt
section
variable {H:Type} {enc:TypeId×Value->H} {P:Program}
theorem post_of_below{f:Func}{s:ChangeSpec}{n B D again:Bool}{W e:World}{args:Array Value}{v:Value}{g h:List (DataW H)}{c i k:List MemPlace}
 (m:DataW.Whole enc P f.params.toList s.vars n W args.toList g h c)
 (y:∀(b:Nat)(d:Nat->Bool)(hd:Bool),DataW.TrodAll enc P e b d hd f.resultTypes.toList (v.resultList f.resultTypes.size) (s.fn H (g++h)).results [])
 (o:∀d:Nat->Bool,(∀p∈c,d p.block=true)->DataW.TrodAll enc P e 0 d true f.params.toList args.toList (s.fn H (g++h)).args i)
 (z:∀d:Nat->Bool,(∀p∈c,d p.block=true)->DataW.TrodVars enc P e d s.vars (s.fn H (g++h)).vars k)
 (l:c=i++k)(q:Bw W e)
 (E:∀(j:Nat)(t:TypeId)(r:Value),f.resultTypes[j]?=X t->(v.resultList f.resultTypes.size)[j]?=X r->Value.okWide P e .any 0 t r):
 s.post enc P f n B D again W args v e:=by
 have w:∀p∈c,p.block<W.heap.size:=λp a=>m.lt p a;have x:∀p∈c,(λb=>decide (b<W.heap.size)) p.block=true:=λp a=>by simpa using w p a
 refine⟨g,h,c,[],i,k,m,y _ _ _,o _ x,z _ x,World.keptBut_mono (λp a=>⟨a,?_⟩) (q.frame (· ∈c)),λ_=>?_⟩
 .rw[l,List.mem_append]at a;exact Or.inr a
 obtain⟨_,_,_,_,_,F,hn⟩:=m;refine⟨E,_,_,([]++i)++k,⟨[]++i,k,trodAll_append (o _ (λ_ _=>rfl)) (y _ _ _),z _ (λ_ _=>rfl),rfl,?_,?_⟩,?_⟩
 .intro b A a;have u:MemPlace.cell b A∈c:=by rw[l];simpa using a
  rw[q.frozen (w _ u)];exact F b A u
 .intro C;have:=hn C;rw[l]at this;simpa using this
 intro p a _;rw[l];simpa using a
end
theorem xW:CaseExtra prog dr:=⟨by kernel_rfl,by kernel_rfl,by kernel_rfl,by kernel_rfl,by kernel_rfl,by kernel_rfl⟩
theorem Bt:Go.Proofs.Lays.n274 prog dr:={p9 with}
def Dd:List (String×DataW Unit):=Rows.catalogueApartRow.laid
theorem sG:Rows.laid_unicode_utf8_first=Lib.firstData:=Pinned.utf8First_eq
theorem uU:Rows.laid_unicode_CaseRanges=Lib.caseData:=Pinned.caseRanges_eq
theorem qP:(Rows.laid_unicode_utf8_acceptRanges:DataW Unit)=Lib.acceptData:=by kernel_rfl
noncomputable def laidWorld (b:Os):World:=
 let N:=(World.settled prog b).heap.size
 let c:=World.holding prog b ⟨#[a0 Lib.caseCells5 (dr.t 208)], #[],[]⟩
 let a (h:Array Obj) (g:Nat) (cs:Array Value):Array Obj:=h.modify g λ
  | .cells _ t d=>a0 cs t d
  |o=>o
 let e:=a c.heap 0 (Lib.firstTab.map λz=>Value.int a1 z).toArray
 let f:=a e 1 ((List.range 16).flatMap λi=>[Value.int a1 (Lib.accLo i),Value.int a1 (Lib.accHi i)]).toArray
 let j:=a f 3 #[a2 N 336 336]
 {c with heap:=j}
theorem xi{P:Program}{w:World}{x y z:String×DataW Unit}(h:laidMet P [x,y,z] w):laidMet P [x,z,y] w:=by
 obtain⟨ps,p,q,r⟩:=h;obtain⟨nx,V⟩:=x;obtain⟨ny,W⟩:=y;obtain⟨nz,dz⟩:=z;obtain⟨e,B,a,m,i,qx,E,F,G,I,⟨f,C,c,n,j,qy,K,L,M,N,⟨g,D,d,o,k,A,O,Q,R,T,t,rfl⟩,rfl⟩,rfl⟩:=p;have u:A=[]:=t;subst u;have l:List.Perm (MemPlace.row e a.size++i++(MemPlace.row f c.size++j++(MemPlace.row g d.size++k++[]))) (MemPlace.row e a.size++i++(MemPlace.row g d.size++k++(MemPlace.row f c.size++j++[]))):=by refine List.Perm.append_left _ ?_;simp only[List.append_nil];exact List.perm_append_comm
 exact⟨_,⟨e,B,a,m,i,_,E,F,G,I,⟨g,D,d,o,k,_,O,Q,R,T,⟨f,C,c,n,j,[],K,L,M,N,rfl,rfl⟩,rfl⟩,rfl⟩,l.nodup_iff.1 q,λb v s=>r b v (l.mem_iff.2 s)⟩
theorem laid_met_at(b:Os)(args:Array Value):laidMet prog Dd ((laidWorld b).forCall (λ_ _=>0) ⟨#[],args,[]⟩).memory:=by
 have h:=laidMet_with_case (ρ:=dr) Bt p9.t206 xW (w:=((laidWorld b).forCall (λ_ _=>0) ⟨#[],args,[]⟩).memory)
  (l:=[("unicode/utf8.acceptRanges",Lib.acceptData),("unicode/utf8.first",Lib.firstData)])
  10 (by kernel_rfl) (by kernel_rfl) (by kernel_rfl) ((World.settled prog default).heap.size) (dr.t 208) (of_decide_eq_true (by kernel_rfl)) (by kernel_rfl) (by kernel_rfl) (by kernel_rfl)
 have a:=xi h;rw[<- sG,<- uU,<- qP]at a;exact a
theorem own:ownKnob prog.godebug=Y:=by kernel_rfl
end
end Go.Proofs.YtjcimanddakkaaaGreatDoor
