/- Lemmas. -/
import Derived.Test.YtjcimanddakkaaaGreatDoorCT1
import Derived.Deep.RegionWith
import Derived.RangeFuncNested
import Derived.RangeFuncBound
import Derived.Shelf.RegionOpen
import Derived.OwnWalkIn
import Derived.LoopNIn
import Derived.LoopIn
set_option maxRecDepth 100000
set_option maxHeartbeats 8000000
namespace Go.Proofs.YtjcimanddakkaaaGreatDoor
open Go.Ending renaming returned→bb
open Go.Value renaming bool→bc
open _root_.Option renaming some→X,none→Y
open Go.World renaming putObj_heap_other→bd,putObj_heap_same→bt,alloc_heap_new→bv
open Go renaming World→bk,KeepsOthers→bl,grownBy_putObj'→bs
open _root_.Nat renaming le_refl→bw
section
open Go.RowKit Go.Shelf
structure dj(B:Nat)(M:Nat->Prop)(X:bk)(M':Nat->Prop)(Y:bk):Prop where
 os:Y.os=X.os
 tape:Y.tape=X.tape
 output:Y.output=X.output
 size:X.heap.size<=Y.heap.size
 block:∀k,k<X.heap.size->¬M k->(B<=k->∀o,X.heap[k]?=some o->o.isCells=true)->Y.heap[k]?=X.heap[k]?
 new:∀k,M' k->M k∨X.heap.size<=k
 lt:∀k,M' k->k<Y.heap.size
def io{α:Type}(B:Nat)(I:(Nat->Prop)->List α->bk->Prop):Prop:=∀M s b a c,I M s b->dj B M b a c->I a s c
def nj(M:Nat->Prop)(a b:bk):Prop:=∀k,M k->b.heap[k]?=a.heap[k]?
section
variable {F:Fence} {n:Nat} {P:Program}
def jr{α:Type}(F:Fence)(n:Nat)(P:Program)(g:Nat)(lb:Array Value)(i:α->Array Value)(S h:List α->Prop)(G:List α->α->Prop)(f:Nat->Prop)(j:bk):Prop:=
 ∀(l:Nat)(J Jx:(Nat->Prop)->List α->bk->Prop)(W:bk),Bw j W->io W J->
  (∀M b x c,J M b c->G b x->YieldAt F (n-1) P l (i x) c λe a=>
   (e=bb (bc true)/\J M (b++[x]) a/\nj M c a/\bl c a)∨(e=bb (bc false)/\Jx M (b++[x]) a))->
  J f [] W->
  CallsIn F n P g (#[.func (.yield l) #[] #[]]++lb) W λe a=>(∃v,e=bb v)/\((∃M d,S d/\J M d a)∨(∃M b,h b/\Jx M b a))
def Cm{α:Type}(M:Nat->Prop)(I:(Nat->Prop)->List α->bk->Prop)(b:Code->(Nat->Prop)->List α->bk->Prop)(a:List α)(W:bk):Exit->Act->bk->Prop
 | .normal,_,W'=>bl W W'/\nj M W W'/\I M a W'
 | .ret,_,W'=>bl W W'/\b .ret M a W'
 | .exit id,_,W'=>bl W W'/\b (.exit id) M a W'
 | .goto t,_,W'=>bl W W'/\b (.goto t) M a W'
 | .panic _,_,_=>False
 | .outgrown,_,_=>False
theorem dj.put{B:Nat}{M:Nat->Prop}{a:bk}(d:∀k,M k->k<a.heap.size)(l:Nat)(g:B<=l)(o b:Obj)(i:a.heap[l]?=X o)(f:o.isCells=false):dj B M a M (a.putObj l b):=
 ⟨rfl,rfl,rfl,(bs a l b).size,λk c _ h=>bd (λe=>by subst e;have:=h g o i;rw[f]at this;cases this),λ_ h=>.inl h,λk c=>Nat.lt_of_lt_of_le (d k c) (bs a l b).size⟩
theorem dj.alloc{B:Nat}{M:Nat->Prop}{a:bk}(c:∀k,M k->k<a.heap.size)(o:Obj):dj B M a M (a.alloc o):=
 ⟨rfl,rfl,rfl,by simp,λk b _ _=>Below.heap_alloc a o k b,λ_ h=>.inl h,λk b=>by have:=c k b;simp;omega⟩
theorem lN{α:Type}{g:Operand}{ps:Array Tmp}{assign body:Code}{Q:Exit->Act->bk->Prop}{a:Act}{w:bk}
 (b6:F.round=Y)(h1:1<=n){gf:Nat}{lb:Array Value}(hg:a.eval g=.func (.func gf) #[] lb)(aa:F.fn gf)(eg:∀args w,(callFunc gf args).run P w=.ok (.enter gf args) w)
 {a0:α->Array Value}{S Sp:List α->Prop}{G:List α->α->Prop}{M0:Nat->Prop}{w0:bk}(b7:jr F (n-1) P gf lb a0 S Sp G M0 w0)(a4:∀k,M0 k->k<w)(a7:Bw w0 w)(b5:∀x,(a0 x).size=ps.size)
 (I:(Nat->Prop)->List α->bk->Prop)(V:Code->(Nat->Prop)->List α->bk->Prop)(N:io w I)(a2:∀c,io w (V c))(a6:∀M s B,I M s B->∀k,M k->k<B.heap.size)(a5:∀c M s B,V c M s B->∀k,M k->k<B.heap.size)
 (h0:I M0 [] w)(a₁:α->Act)
 (av:∀(l:Nat)(x:α)(W:bk)(K:Act->bk->Prop),K (a₁ x) W->
  assign.wpIn (F.inRound l) (n-1-1) P (Exit.then K (λ_ _ _=>False)) {tmps:=(ps.zip (a0 x)).foldl (λt(p,v)=>t.setIfInBounds p v) a.tmps,defers:=[]} W)
 (ay:∀(l:Nat)(M:Nat->Prop)(f:List α)(x:α)(W:bk),I M f W->G f x->body.wpIn (F.inRound l) (n-1-1) P (Cm M I V (f++[x]) W) (a₁ x) W)
 (az:∀(D:Nat)(M:Nat->Prop)(xs:List α)(W:bk),w<=D->S xs->I M xs W->W.heap[D]?=X (.deferred (X []))->Q .normal {a with defers:={target:=.collected D,args:= #[]}::a.defers} W)
 (b8:∀(D:Nat)(c:Code)(M:Nat->Prop)(f:List α)(W:bk),w<=D->Sp f->V c M f W->W.heap[D]?=X (.deferred (X []))->c.wpIn F n P Q {a with defers:={target:=.collected D,args:= #[]}::a.defers} W):
 (Code.rangeFunc g ps assign body).wpIn F n P Q a w:=by
 refine wpIn_rangeFunc ?_;intro fn aC;rw[b6];obtain⟨rec,A⟩:∃rec:LoopState->Option Code->Loop,rec=λst pe=>{state:=st,pending:=pe,fn,tmps:=a.tmps,params:=ps,assign,body,defers:=w.heap.size}:=⟨_,rfl⟩;obtain⟨r,O⟩:=Qe ((w.alloc (.deferred (X []))).alloc (.loop (rec .ready Y)));have al:r.heap[w.heap.size+1]?=X (.loop (rec .ready Y)):=by rw[<- O];have:=bv (w.alloc (.deferred (X []))) (.loop (rec .ready Y));rwa[World.size_alloc]at this
 have ad:r.heap[w.heap.size]?=X (.deferred (X [])):=by rw[<- O];exact(Below.heap_alloc _ _ _ (by simp)).trans (bv w _)
 have ac:I M0 [] r:=by rw[<- O];exact N _ _ _ _ _ (N _ _ _ _ _ h0 (dj.alloc a4 _)) (dj.alloc (λk b=>by have:=a4 k b;simp;omega) _)
 have b9:r.heap.size=w+2:=by rw[<- O];simp
 have ax:Bw w0 r:=by rw[<- O];exact a7.trans ((((Below.refl _ w).alloc (bw _) _).alloc (by simp) _).mono a7.size)
 refine⟨w.heap.size+1,[{target:=.collected w,args:= #[]}],r,{target:=.fn (.func gf) lb,args:= #[.func (.yield (w.heap.size+1)) #[] #[]]},r,gf,
  #[.func (.yield (w.heap.size+1)) #[] #[]]++lb,r,?_,?_,?_,?_,λ_=>h1,?_⟩
 .rw[<- O,A];exact run_enterLoop_outer _ _ _ _ _
 .simp only[resolve,hg];simp[go_sem]
 .intro f' a8;simp[Target.leads]at a8;subst a8;exact aa
 .simp[invoke,go_sem,eg]
 refine(b7 (w.heap.size+1)
  (λM f W=>I M f W/\¬M (w.heap.size+1)/\¬M w/\W.heap[w.heap.size+1]?=X (.loop (rec .ready Y))/\W.heap[w.heap.size]?=X (.deferred (X [])))
  (λM f W=>∃c,V c M f W/\W.heap[w.heap.size+1]?=X (.loop (rec .done (X c)))/\W.heap[w.heap.size]?=X (.deferred (X [])))
  r ax
  (λM s B M' a9 hs y=>by
   obtain⟨z,T,n2,d,b⟩:=hs
   have b1:w+1<B.heap.size:=(Array.getElem?_eq_some_iff.1 d).1
   have hT:dj w M B M' a9:=⟨y.os,y.tape,y.output,y.size,λk b h2 h3=>y.block k b h2 λhB o H=>h3 (by omega) o H,y.new,y.lt⟩
   exact⟨N _ _ _ _ _ z hT,λh=>by rcases y.new _ h with h|h;exact T h;omega,λh=>by rcases y.new _ h with h|h;exact n2 h;omega,
    (y.block _ b1 T (λhB=>by omega)).trans d,(y.block _ (by omega) n2 (λhB=>by omega)).trans b⟩)
  ?_ ⟨ac,λh=>by have:=a4 _ h;omega,λh=>by have:=a4 _ h;omega,al,ad⟩).mono ?_
 ·
  rintro M f x W⟨z,T,n2,d,b⟩b3
  have b4:w.heap.size+1<W:=(Array.getElem?_eq_some_iff.1 d).1
  have hy:=run_yield (P:=P) (args:=a0 x) d (by rw[A];exact b5 x)
  rw[A]at hy
  refine⟨fn,_,assign,body,hy,roundIn_of_wpIn aC (av _ x W _ ⟨_,run_beginRound d (by rw[A]),?_⟩)⟩
  have b2:(W.putObj (w.heap.size+1) (.loop {rec .ready Y with state:=.busy})).heap[w.heap.size+1]?=X (.loop {rec .ready Y with state:=.busy}):=bt b4
  have aT:(W.putObj (w.heap.size+1) (.loop {rec .ready Y with state:=.busy})).heap[w.heap.size]?=X (.deferred (X [])):=(bd (by omega)).trans b
  have ao:=a6 _ _ _ z
  have aS:=N _ _ _ _ _ z (dj.put ao (w.heap.size+1) (by omega) _ (.loop {rec .ready Y with state:=.busy}) d rfl)
  refine wpIn_mono (ay _ M f x _ aS b3) ?_
  have a1:∀(q:Option Code)(i:bk),bl (W.putObj (w.heap.size+1) (.loop {rec .ready Y with state:=.busy})) i->
   (Instr.endRound (w.heap.size+1) q).run P i=.ok (bc q.isNone) (i.putObj (w.heap.size+1) (.loop (rec (if q.isNone then .ready else .done) q)))/\
   i.heap[w.heap.size+1]?=X (.loop {rec .ready Y with state:=.busy})/\
   (i.putObj (w.heap.size+1) (.loop (rec (if q.isNone then .ready else .done) q))).heap[w.heap.size+1]?=X (.loop (rec (if q.isNone then .ready else .done) q))/\
   (i.putObj (w.heap.size+1) (.loop (rec (if q.isNone then .ready else .done) q))).heap[w.heap.size]?=X (.deferred (X [])):=λq i j=>by
   have m:=j.same _ _ b2 rfl
   have:=run_endRound (P:=P) q m
   rw[A]at this ⊢
   exact⟨this,by rw[A]at m;exact m,bt (Array.getElem?_eq_some_iff.1 m).1,(bd (by omega)).trans (j.same _ _ aT rfl)⟩
  rintro e a3 i R
  cases e with
  |normal=>
   obtain⟨j,b0,u⟩:=R
   obtain⟨L,m,C,E⟩:=a1 Y i j
   refine⟨_,_,L,.inl ⟨rfl,⟨N _ _ _ _ _ u (dj.put (a6 _ _ _ u) _ (by omega) _ _ m rfl),T,n2,C,E⟩,λk b=>?_,?_⟩⟩
   .have e1:k≠w+1:=λe=>T (e▸b)
    exact((bd (by omega)).trans (b0 k b)).trans (bd (by omega))
   .refine⟨Nat.le_trans (Nat.le_trans (bs W (w.heap.size+1) _).size j.size) (bs i (w.heap.size+1) _).size,λk o H hc=>?_⟩
    by_cases e1:k=w+1
    .subst e1
     rw[d]at H
     injection H with H
     subst H
     exact C
    .exact(bd (by omega)).trans (j.same k o ((bd (by omega)).trans H) hc)
  |ret=>
   obtain⟨j,u⟩:=R
   obtain⟨L,m,C,E⟩:=a1 (X .ret) i j
   exact⟨_,_,L,.inr ⟨rfl,.ret,a2 _ _ _ _ _ _ u (dj.put (a5 _ _ _ _ u) _ (by omega) _ _ m rfl),C,E⟩⟩
  |exit id=>
   obtain⟨j,u⟩:=R
   obtain⟨L,m,C,E⟩:=a1 (X (.exit id)) i j
   exact⟨_,_,L,.inr ⟨rfl,.exit id,a2 _ _ _ _ _ _ u (dj.put (a5 _ _ _ _ u) _ (by omega) _ _ m rfl),C,E⟩⟩
  |goto t=>
   obtain⟨j,u⟩:=R
   obtain⟨L,m,C,E⟩:=a1 (X (.goto t)) i j
   exact⟨_,_,L,.inr ⟨rfl,.goto t,a2 _ _ _ _ _ _ u (dj.put (a5 _ _ _ _ u) _ (by omega) _ _ m rfl),C,E⟩⟩
  |panic ch=>exact R.elim
  |outgrown=>exact R.elim
 ·
  rintro e W2⟨⟨v,rfl⟩,(⟨M,xs,hS,z,T,n2,d,b⟩|⟨M,f,au,c,z,d,b⟩)⟩
  .exact⟨Y,_,by have:=run_endLoop (P:=P) d (by rw[A];simp);rw[A]at this;exact this,az _ M xs _ (bw _) hS (N _ _ _ _ _ z (dj.put (a6 _ _ _ z) _ (by omega) _ _ d rfl)) ((bd (by omega)).trans b)⟩
  .exact⟨X c,_,by have:=run_endLoop (P:=P) d (by rw[A];simp);rw[A]at this;exact this,b8 _ c M f _ (bw _) au (a2 c _ _ _ _ _ z (dj.put (a5 _ _ _ _ z) _ (by omega) _ _ d rfl)) ((bd (by omega)).trans b)⟩
end
end
end Go.Proofs.YtjcimanddakkaaaGreatDoor
