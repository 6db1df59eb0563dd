/- Lemmas. -/
import Derived.Test.YtjcimanddakkaaaGreatDoorCQ1
import Derived.Deep.RegionWith
import Derived.RangeFuncNested
import Derived.RangeFuncBound
import Derived.Shelf.RegionOpen
import Derived.OwnWalkIn
import Derived.LoopNIn
import Derived.LoopIn
set_option maxRecDepth 100000
set_option maxHeartbeats 8000000
namespace Go.Proofs.YtjcimanddakkaaaGreatDoor
open Go.Ending renaming returned→bd
open Go.Value renaming bool→bk
open _root_.Option renaming some→X,none→Y
open Go.World renaming putObj_heap_other→bl,putObj_heap_same→bw,alloc_heap_new→bA
open Go renaming World→bs,KeepsOthers→bt,grownBy_putObj'→bv
open _root_.Nat renaming le_refl→bB
section
open Go.RowKit Go.Shelf
structure de(B:Nat)(M:Nat->Prop)(X:bs)(M':Nat->Prop)(Y:bs):Prop where
 os:Y.os=X.os
 tape:Y.tape=X.tape
 output:Y.output=X.output
 size:X.heap.size<=Y.heap.size
 block:∀k,k<X.heap.size->¬M k->(B<=k->∀o,X.heap[k]?=some o->o.isCells=true)->Y.heap[k]?=X.heap[k]?
 new:∀k,M' k->M k∨X.heap.size<=k
 lt:∀k,M' k->k<Y.heap.size
def ig{α:Type}(B:Nat)(I:(Nat->Prop)->List α->bs->Prop):Prop:=∀M s b a c,I M s b->de B M b a c->I a s c
def nc(M:Nat->Prop)(a b:bs):Prop:=∀k,M k->b.heap[k]?=a.heap[k]?
section
variable {F:Fence} {n:Nat} {P:Program}
def jl{α:Type}(F:Fence)(n:Nat)(P:Program)(g:Nat)(lb:Array Value)(i:α->Array Value)(S h:List α->Prop)(G:List α->α->Prop)(f:Nat->Prop)(j:bs):Prop:=
 ∀(l:Nat)(J Jx:(Nat->Prop)->List α->bs->Prop)(W:bs),Bw j W->ig W.heap.size J->
  (∀M b x c,J M b c->G b x->YieldAt F (n-1) P l (i x) c λe a=>
   (e=bd (bk true)/\J M (b++[x]) a/\nc M c a/\bt c a)∨(e=bd (bk false)/\Jx M (b++[x]) a))->
  J f [] W->
  CallsIn F n P g (#[.func (.yield l) #[] #[]]++lb) W λe a=>(∃v,e=bd v)/\((∃M d,S d/\J M d a)∨(∃M b,h b/\Jx M b a))
def BS{α:Type}(M:Nat->Prop)(I:(Nat->Prop)->List α->bs->Prop)(b:Code->(Nat->Prop)->List α->bs->Prop)(a:List α)(W:bs):Exit->Act->bs->Prop
 | .normal,_,W'=>bt W W'/\nc M W W'/\I M a W'
 | .ret,_,W'=>bt W W'/\b .ret M a W'
 | .exit id,_,W'=>bt W W'/\b (.exit id) M a W'
 | .goto t,_,W'=>bt W W'/\b (.goto t) M a W'
 | .panic _,_,_=>False
 | .outgrown,_,_=>False
theorem de.put{B:Nat}{M:Nat->Prop}{a:bs}(d:∀k,M k->k<a.heap.size)(l:Nat)(g:B<=l)(o b:Obj)(i:a.heap[l]?=X o)(f:o.isCells=false):de B M a M (a.putObj l b):=
 ⟨rfl,rfl,rfl,(bv a l b).size,λk c _ h=>bl (λe=>by subst e;have:=h g o i;rw[f]at this;cases this),λ_ h=>.inl h,λk c=>Nat.lt_of_lt_of_le (d k c) (bv a l b).size⟩
theorem de.alloc{B:Nat}{M:Nat->Prop}{a:bs}(c:∀k,M k->k<a.heap.size)(o:Obj):de B M a M (a.alloc o):=
 ⟨rfl,rfl,rfl,by simp,λk b _ _=>Below.heap_alloc a o k b,λ_ h=>.inl h,λk b=>by have:=c k b;simp;omega⟩
theorem lJ{α:Type}{g:Operand}{ps:Array Tmp}{assign body:Code}{Q:Exit->Act->bs->Prop}{a:Act}{w:bs}
 (b8:F.round=Y)(h1:1<=n){gf:Nat}{lb:Array Value}(hg:a.eval g=.func (.func gf) #[] lb)(ac:F.fn gf)(eg:∀args w,(callFunc gf args).run P w=.ok (.enter gf args) w)
 {a0:α->Array Value}{S Sp:List α->Prop}{G:List α->α->Prop}{M0:Nat->Prop}{w0:bs}(b9:jl F (n-1) P gf lb a0 S Sp G M0 w0)(a4:∀k,M0 k->k<w.heap.size)(a7:Bw w0 w)(b7:∀x,(a0 x).size=ps.size)
 (I:(Nat->Prop)->List α->bs->Prop)(V:Code->(Nat->Prop)->List α->bs->Prop)(N:ig w.heap.size I)(a2:∀c,ig w.heap.size (V c))(a6:∀M s B,I M s B->∀k,M k->k<B.heap.size)(a5:∀c M s B,V c M s B->∀k,M k->k<B.heap.size)
 (h0:I M0 [] w)(a₁:α->Act)
 (ax:∀(l:Nat)(x:α)(W:bs)(K:Act->bs->Prop),K (a₁ x) W->
  assign.wpIn (F.inRound l) (n-1-1) P (Exit.then K (λ_ _ _=>False)) {tmps:=(ps.zip (a0 x)).foldl (λt(p,v)=>t.setIfInBounds p v) a.tmps,defers:=[]} W)
 (aC:∀(l:Nat)(M:Nat->Prop)(f:List α)(x:α)(W:bs),I M f W->G f x->body.wpIn (F.inRound l) (n-1-1) P (BS M I V (f++[x]) W) (a₁ x) W)
 (aS:∀(D:Nat)(M:Nat->Prop)(xs:List α)(W:bs),w.heap.size<=D->S xs->I M xs W->W.heap[D]?=X (.deferred (X []))->Q .normal {a with defers:={target:=.collected D,args:= #[]}::a.defers} W)
 (bb:∀(D:Nat)(c:Code)(M:Nat->Prop)(f:List α)(W:bs),w.heap.size<=D->Sp f->V c M f W->W.heap[D]?=X (.deferred (X []))->c.wpIn F n P Q {a with defers:={target:=.collected D,args:= #[]}::a.defers} W):
 (Code.rangeFunc g ps assign body).wpIn F n P Q a w:=by
 refine wpIn_rangeFunc ?_;intro fn aT;rw[b8];obtain⟨rec,A⟩:∃rec:LoopState->Option Code->Loop,rec=λst pe=>{state:=st,pending:=pe,fn,tmps:=a.tmps,params:=ps,assign,body,defers:=w.heap.size}:=⟨_,rfl⟩;obtain⟨r,O⟩:=Qe ((w.alloc (.deferred (X []))).alloc (.loop (rec .ready Y)));have ao:r.heap[w.heap.size+1]?=X (.loop (rec .ready Y)):=by rw[<- O];have:=bA (w.alloc (.deferred (X []))) (.loop (rec .ready Y));rwa[World.size_alloc]at this
 have al:r.heap[w.heap.size]?=X (.deferred (X [])):=by rw[<- O];exact(Below.heap_alloc _ _ _ (by simp)).trans (bA w _)
 have ad:I M0 [] r:=by rw[<- O];exact N _ _ _ _ _ (N _ _ _ _ _ h0 (de.alloc a4 _)) (de.alloc (λk b=>by have:=a4 k b;simp;omega) _)
 have bc:r.heap.size=w.heap.size+2:=by rw[<- O];simp
 have ay:Bw w0 r:=by rw[<- O];exact a7.trans ((((Below.refl _ w).alloc (bB _) _).alloc (by simp) _).mono a7.size)
 refine⟨w.heap.size+1,[{target:=.collected w.heap.size,args:= #[]}],r,{target:=.fn (.func gf) lb,args:= #[.func (.yield (w.heap.size+1)) #[] #[]]},r,gf,
  #[.func (.yield (w.heap.size+1)) #[] #[]]++lb,r,?_,?_,?_,?_,λ_=>h1,?_⟩
 .rw[<- O,A];exact run_enterLoop_outer _ _ _ _ _
 .simp only[resolve,hg];simp[go_sem]
 .intro f' a8;simp[Target.leads]at a8;subst a8;exact ac
 .simp[invoke,go_sem,eg]
 refine(b9 (w.heap.size+1)
  (λM f W=>I M f W/\¬M (w.heap.size+1)/\¬M w.heap.size/\W.heap[w.heap.size+1]?=X (.loop (rec .ready Y))/\W.heap[w.heap.size]?=X (.deferred (X [])))
  (λM f W=>∃c,V c M f W/\W.heap[w.heap.size+1]?=X (.loop (rec .done (X c)))/\W.heap[w.heap.size]?=X (.deferred (X [])))
  r ay
  (λM s B M' a9 hs y=>by
   obtain⟨z,T,n2,d,b⟩:=hs
   have b3:w.heap.size+1<B.heap.size:=(Array.getElem?_eq_some_iff.1 d).1
   have hT:de w.heap.size M B M' a9:=⟨y.os,y.tape,y.output,y.size,λk b h2 h3=>y.block k b h2 λhB o H=>h3 (by omega) o H,y.new,y.lt⟩
   exact⟨N _ _ _ _ _ z hT,λh=>by rcases y.new _ h with h|h;exact T h;omega,λh=>by rcases y.new _ h with h|h;exact n2 h;omega,
    (y.block _ b3 T (λhB=>by omega)).trans d,(y.block _ (by omega) n2 (λhB=>by omega)).trans b⟩)
  ?_ ⟨ad,λh=>by have:=a4 _ h;omega,λh=>by have:=a4 _ h;omega,ao,al⟩).mono ?_
 ·
  rintro M f x W⟨z,T,n2,d,b⟩b5
  have b6:w.heap.size+1<W.heap.size:=(Array.getElem?_eq_some_iff.1 d).1
  have hy:=run_yield (P:=P) (args:=a0 x) d (by rw[A];exact b7 x)
  rw[A]at hy
  refine⟨fn,_,assign,body,hy,roundIn_of_wpIn aT (ax _ x W _ ⟨_,run_beginRound d (by rw[A]),?_⟩)⟩
  have b4:(W.putObj (w.heap.size+1) (.loop {rec .ready Y with state:=.busy})).heap[w.heap.size+1]?=X (.loop {rec .ready Y with state:=.busy}):=bw b6
  have b1:(W.putObj (w.heap.size+1) (.loop {rec .ready Y with state:=.busy})).heap[w.heap.size]?=X (.deferred (X [])):=(bl (by omega)).trans b
  have au:=a6 _ _ _ z
  have b0:=N _ _ _ _ _ z (de.put au (w.heap.size+1) (by omega) _ (.loop {rec .ready Y with state:=.busy}) d rfl)
  refine wpIn_mono (aC _ M f x _ b0 b5) ?_
  have a1:∀(q:Option Code)(i:bs),bt (W.putObj (w.heap.size+1) (.loop {rec .ready Y with state:=.busy})) i->
   (Instr.endRound (w.heap.size+1) q).run P i=.ok (bk q.isNone) (i.putObj (w.heap.size+1) (.loop (rec (if q.isNone then .ready else .done) q)))/\
   i.heap[w.heap.size+1]?=X (.loop {rec .ready Y with state:=.busy})/\
   (i.putObj (w.heap.size+1) (.loop (rec (if q.isNone then .ready else .done) q))).heap[w.heap.size+1]?=X (.loop (rec (if q.isNone then .ready else .done) q))/\
   (i.putObj (w.heap.size+1) (.loop (rec (if q.isNone then .ready else .done) q))).heap[w.heap.size]?=X (.deferred (X [])):=λq i j=>by
   have m:=j.same _ _ b4 rfl
   have:=run_endRound (P:=P) q m
   rw[A]at this ⊢
   exact⟨this,by rw[A]at m;exact m,bw (Array.getElem?_eq_some_iff.1 m).1,(bl (by omega)).trans (j.same _ _ b1 rfl)⟩
  rintro e a3 i R
  cases e with
  |normal=>
   obtain⟨j,b2,u⟩:=R
   obtain⟨L,m,C,E⟩:=a1 Y i j
   refine⟨_,_,L,.inl ⟨rfl,⟨N _ _ _ _ _ u (de.put (a6 _ _ _ u) _ (by omega) _ _ m rfl),T,n2,C,E⟩,λk b=>?_,?_⟩⟩
   .have e1:k≠w.heap.size+1:=λe=>T (e▸b)
    exact((bl (by omega)).trans (b2 k b)).trans (bl (by omega))
   .refine⟨Nat.le_trans (Nat.le_trans (bv W (w.heap.size+1) _).size j.size) (bv i (w.heap.size+1) _).size,λk o H hc=>?_⟩
    by_cases e1:k=w.heap.size+1
    .subst e1
     rw[d]at H
     injection H with H
     subst H
     exact C
    .exact(bl (by omega)).trans (j.same k o ((bl (by omega)).trans H) hc)
  |ret=>
   obtain⟨j,u⟩:=R
   obtain⟨L,m,C,E⟩:=a1 (X .ret) i j
   exact⟨_,_,L,.inr ⟨rfl,.ret,a2 _ _ _ _ _ _ u (de.put (a5 _ _ _ _ u) _ (by omega) _ _ m rfl),C,E⟩⟩
  |exit id=>
   obtain⟨j,u⟩:=R
   obtain⟨L,m,C,E⟩:=a1 (X (.exit id)) i j
   exact⟨_,_,L,.inr ⟨rfl,.exit id,a2 _ _ _ _ _ _ u (de.put (a5 _ _ _ _ u) _ (by omega) _ _ m rfl),C,E⟩⟩
  |goto t=>
   obtain⟨j,u⟩:=R
   obtain⟨L,m,C,E⟩:=a1 (X (.goto t)) i j
   exact⟨_,_,L,.inr ⟨rfl,.goto t,a2 _ _ _ _ _ _ u (de.put (a5 _ _ _ _ u) _ (by omega) _ _ m rfl),C,E⟩⟩
  |panic ch=>exact R.elim
  |outgrown=>exact R.elim
 ·
  rintro e W2⟨⟨v,rfl⟩,(⟨M,xs,hS,z,T,n2,d,b⟩|⟨M,f,av,c,z,d,b⟩)⟩
  .exact⟨Y,_,by have:=run_endLoop (P:=P) d (by rw[A];simp);rw[A]at this;exact this,aS _ M xs _ (bB _) hS (N _ _ _ _ _ z (de.put (a6 _ _ _ z) _ (by omega) _ _ d rfl)) ((bl (by omega)).trans b)⟩
  .exact⟨X c,_,by have:=run_endLoop (P:=P) d (by rw[A];simp);rw[A]at this;exact this,bb _ c M f _ (bB _) av (a2 c _ _ _ _ _ z (de.put (a5 _ _ _ _ z) _ (by omega) _ _ d rfl)) ((bl (by omega)).trans b)⟩
end
end
end Go.Proofs.YtjcimanddakkaaaGreatDoor
