/- Lemmas. -/
import Derived.Test.YtjcimanddakkaaaGreatDoorX0
import Derived.Test.YtjcimanddakkaaaGreatDoorX1
import Derived.Test.YtjcimanddakkaaaGreatDoorX2
import Derived.RangeFuncNested
import Derived.RangeFuncBound
import Derived.RangeFuncCalls
import Derived.RangeFuncLeaves
import Derived.RangeFuncFrom
import Derived.Shelf.Abstract
import Derived.Shelf.RegionOpen
import Derived.OwnWalkIn
import Derived.TacticsInMore
import Derived.LoopNIn
import Derived.LoopIn
import Derived.StillTailTactics
import Derived.DeepKeys4
set_option maxRecDepth 100000
set_option maxHeartbeats 8000000
namespace Go.Proofs.YtjcimanddakkaaaGreatDoor
open _root_.Nat renaming le_refl→a0a,zero_le→a0C,zero_add→a0F
open Go.Lib renaming hid→a0b,run_eql_slice_nil→a0z
open Go.World renaming alloc_heap_new→a0c,putObj_heap_other→a0i,size_alloc→a0l,size_setCell→a0r,ownsRow_nil→a0D,putObj_heap_same→a0J
open Go.Proofs.Tryz renaming prog→a0d
open Go.RowKit.Below renaming refl→a0e,heap_alloc→a0f,heap_setCell→a0g
open Go renaming World→a0h,Value→a0k,Calls→a0s,rounds_succ→a0y,KeepsOthers→a0A,grownBy_putObj'→a0B,TypeId→a0E,Program→a0N,wp_loop_rounds→a0O
open _root_.List renaming take_succ_eq_append_getElem→a0j,take_of_length_le→a0o,length_map→a0q,flatMap_cons→a0t,length_cons→a0v,getElem_mem→a0w,nil_append→a0G,map_cons→a0L,length_append→a0R
open Go.Calls renaming mono→a0m
open Go.RowKit renaming Below→a0n
open Go.ChangeMaps renaming setBlock→a0p
open Go.Program renaming keyLits→a0u
open Go.Instr renaming lookup→a0x
open _root_.Ne renaming symm→a0H
open _root_.Int renaming tdiv_eq_ediv_of_nonneg→a0I
open _root_.Prod renaming ext→a0K
open Go.Value renaming int→a0M
open _root_.Option renaming isSome_none→a0P,getD_none→a0Q
section
open Go.RowKit Go.Shelf
structure cN (B:Nat) (M:Nat->Prop) (X:a0h) (M':Nat->Prop) (Y:a0h):Prop where
 os:Y.os=X.os
 tape:Y.tape=X.tape
 output:Y.output=X.output
 size:X.heap.size<=Y.heap.size
 block:∀k,k<X.heap.size->¬M k->(B<=k->∀o,X.heap[k]? =some o->o.isCells=true)->Y.heap[k]? =X.heap[k]?
 new:∀k,M' k->M k∨X.heap.size<=k
 lt:∀k,M' k->k<Y.heap.size
def gA {α:Type} (B:Nat) (I:(Nat->Prop)->List α->a0h->Prop):Prop:=∀M s X a Y,I M s X->cN B M X a Y->I a s Y
def lO (M:Nat->Prop) (X Y:a0h):Prop:=∀k,M k->Y.heap[k]? =X.heap[k]?
section
variable {F:Fence} {n:Nat} {P:a0N}
def iY {α:Type} (F:Fence) (n:Nat) (P:a0N) (g:Nat) (lb:Array a0k) (j:α->Array a0k) (S i:List α->Prop) (G:List α->α->Prop) (h:Nat->Prop) (d:a0h):Prop:=
 ∀(l:Nat) (J Jx:(Nat->Prop)->List α->a0h->Prop) (W:a0h),a0n d.heap.size d W->gA W.heap.size J->
  (∀M b x c,J M b c->G b x->YieldAt F (n - 1) P l (j x) c λe a=>
   (e= .returned (.bool true)/\J M (b++[x]) a/\lO M c a/\a0A c a)∨(e= .returned (.bool false)/\Jx M (b++[x]) a))->
  J h [] W->
  CallsIn F n P g (#[.func (.yield l) #[] #[]]++lb) W λe a=>(∃v,e= .returned v)/\((∃M f,S f/\J M f a)∨(∃M b,i b/\Jx M b a))
def zN {α:Type} (M:Nat->Prop) (I:(Nat->Prop)->List α->a0h->Prop) (b:Code->(Nat->Prop)->List α->a0h->Prop) (a:List α) (W:a0h):Exit->Act->a0h->Prop
 | .normal,_,W'=>a0A W W'/\lO M W W'/\I M a W'
 | .ret,_,W'=>a0A W W'/\b .ret M a W'
 | .exit id,_,W'=>a0A W W'/\b (.exit id) M a W'
 | .goto t,_,W'=>a0A W W'/\b (.goto t) M a W'
 | .panic _,_,_=>False
 | .outgrown,_,_=>False
theorem cN.put {B:Nat} {M:Nat->Prop} {X:a0h} (c:∀k,M k->k<X.heap.size) (l:Nat) (f:B<=l) (o a:Obj) (g:X.heap[l]? =some o) (d:o.isCells=false):cN B M X M (X.putObj l a):=
 ⟨rfl,rfl,rfl,(a0B X l a).size,λk b _ h=>a0i (λe=>by subst e;have:=h f o g;rw [d] at this;cases this),λ_ h=> .inl h,λk b=>Nat.lt_of_lt_of_le (c k b) (a0B X l a).size⟩
theorem cN.alloc {B:Nat} {M:Nat->Prop} {X:a0h} (b:∀k,M k->k<X.heap.size) (o:Obj):cN B M X M (X.alloc o):=
 ⟨rfl,rfl,rfl,by simp,λk a _ _=>a0f X o k a,λ_ h=> .inl h,λk a=>by have:=b k a;simp;omega⟩
theorem km {α:Type} {g:Operand} {ps:Array Tmp} {assign body:Code} {Q:Exit->Act->a0h->Prop} {a:Act} {w:a0h}
 (b7:F.round=none) (h1:1<=n) {gf:Nat} {lb:Array a0k} (hg:a.eval g= .func (.func gf) #[] lb) (a9:F.fn gf) (eg:∀args w,(callFunc gf args).run P w= .ok (.enter gf args) w)
 {a0:α->Array a0k} {S Sp:List α->Prop} {G:List α->α->Prop} {Z:Nat->Prop} {V:a0h} (b8:iY F (n - 1) P gf lb a0 S Sp G Z V) (a4:∀k,Z k->k<w.heap.size) (a7:a0n V.heap.size V w) (b6:∀x,(a0 x).size=ps.size)
 (I:(Nat->Prop)->List α->a0h->Prop) (T:Code->(Nat->Prop)->List α->a0h->Prop) (L:gA w.heap.size I) (a2:∀c,gA w.heap.size (T c)) (a6:∀M s X,I M s X->∀k,M k->k<X.heap.size) (a5:∀c M s X,T c M s X->∀k,M k->k<X.heap.size)
 (h0:I Z [] w) (a₁:α->Act)
 (av:∀(l:Nat) (x:α) (W:a0h) (K:Act->a0h->Prop),K (a₁ x) W->
  assign.wpIn (F.inRound l) (n - 1 - 1) P (Exit.then K (λ_ _ _=>False)) {tmps:=(ps.zip (a0 x)).foldl (λt (p,v)=>t.setIfInBounds p v) a.tmps,defers:=[]} W)
 (ay:∀(l:Nat) (M:Nat->Prop) (f:List α) (x:α) (W:a0h),I M f W->G f x->body.wpIn (F.inRound l) (n - 1 - 1) P (zN M I T (f++[x]) W) (a₁ x) W)
 (aC:∀(D:Nat) (M:Nat->Prop) (xs:List α) (W:a0h),w.heap.size<=D->S xs->I M xs W->W.heap[D]? =some (.deferred (some []))->Q .normal {a with defers:={target:= .collected D,args:= #[]}::a.defers} W)
 (b9:∀(D:Nat) (c:Code) (M:Nat->Prop) (f:List α) (W:a0h),w.heap.size<=D->Sp f->T c M f W->W.heap[D]? =some (.deferred (some []))->c.wpIn F n P Q {a with defers:={target:= .collected D,args:= #[]}::a.defers} W):
 (Code.rangeFunc g ps assign body).wpIn F n P Q a w:=by
 refine wpIn_rangeFunc ?_;intro fn aS;rw [b7];obtain ⟨rec,A⟩:∃rec:LoopState->Option Code->Loop,rec=λst pe=>{state:=st,pending:=pe,fn,tmps:=a.tmps,params:=ps,assign,body,defers:=w.heap.size}:=⟨_,rfl⟩;obtain ⟨r,N⟩:∃r,(w.alloc (.deferred (some []))).alloc (.loop (rec .ready none))=r:=⟨_,rfl⟩;have al:r.heap[w.heap.size+1]? =some (.loop (rec .ready none)):=by rw [<- N];have:=a0c (w.alloc (.deferred (some []))) (.loop (rec .ready none));rwa [a0l] at this
 have ad:r.heap[w.heap.size]? =some (.deferred (some [])):=by rw [<- N];exact (a0f _ _ _ (by simp)).trans (a0c w _)
 have ac:I Z [] r:=by rw [<- N];exact L _ _ _ _ _ (L _ _ _ _ _ h0 (cN.alloc a4 _)) (cN.alloc (λk b=>by have:=a4 k b;simp;omega) _)
 have bb:r.heap.size=w.heap.size+2:=by rw [<- N];simp
 have ax:a0n V.heap.size V r:=by rw [<- N];exact a7.trans ((((a0e _ w).alloc (a0a _) _).alloc (by simp) _).mono a7.size)
 refine ⟨w.heap.size+1,[{target:= .collected w.heap.size,args:= #[]}],r,{target:= .fn (.func gf) lb,args:= #[.func (.yield (w.heap.size+1)) #[] #[]]},r,gf,
  #[.func (.yield (w.heap.size+1)) #[] #[]]++lb,r,?_,?_,?_,?_,λ_=>h1,?_⟩
 · rw [<- N,A];exact run_enterLoop_outer _ _ _ _ _
 · simp only [resolve,hg];simp [go_sem]
 · intro f' a8;simp [Target.leads] at a8;subst a8;exact a9
 · simp [invoke,go_sem,eg]
 · refine (b8 (w.heap.size+1)
    (λM f W=>I M f W/\¬M (w.heap.size+1)/\¬M w.heap.size/\W.heap[w.heap.size+1]? =some (.loop (rec .ready none))/\W.heap[w.heap.size]? =some (.deferred (some [])))
    (λM f W=>∃c,T c M f W/\W.heap[w.heap.size+1]? =some (.loop (rec .done (some c)))/\W.heap[w.heap.size]? =some (.deferred (some [])))
    r ax
    (λM s X M' Y hs y=>by
     obtain ⟨z,R,U,d,b⟩:=hs
     have b2:w.heap.size+1<X.heap.size:=(Array.getElem?_eq_some_iff.1 d).1
     have hT:cN w.heap.size M X M' Y:=⟨y.os,y.tape,y.output,y.size,λk b h2 h3=>y.block k b h2 λhB o H=>h3 (by omega) o H,y.new,y.lt⟩
     exact ⟨L _ _ _ _ _ z hT,λh=>by rcases y.new _ h with h|h;exact R h;omega,λh=>by rcases y.new _ h with h|h;exact U h;omega,
      (y.block _ b2 R (λhB=>by omega)).trans d,(y.block _ (by omega) U (λhB=>by omega)).trans b⟩)
    ?_ ⟨ac,λh=>by have:=a4 _ h;omega,λh=>by have:=a4 _ h;omega,al,ad⟩).mono ?_
   ·
    rintro M f x W ⟨z,R,U,d,b⟩ b4
    have b5:w.heap.size+1<W.heap.size:=(Array.getElem?_eq_some_iff.1 d).1
    have hy:=run_yield (P:=P) (args:=a0 x) d (by rw [A];exact b6 x)
    rw [A] at hy
    refine ⟨fn,_,assign,body,hy,roundIn_of_wpIn aS (av _ x W _ ⟨_,run_beginRound d (by rw [A]),?_⟩)⟩
    have b3:(W.putObj (w.heap.size+1) (.loop {rec .ready none with state:= .busy})).heap[w.heap.size+1]? =some (.loop {rec .ready none with state:= .busy}):=a0J b5
    have b0:(W.putObj (w.heap.size+1) (.loop {rec .ready none with state:= .busy})).heap[w.heap.size]? =some (.deferred (some [])):=(a0i (by omega)).trans b
    have ao:=a6 _ _ _ z
    have aT:=L _ _ _ _ _ z (cN.put ao (w.heap.size+1) (by omega) _ (.loop {rec .ready none with state:= .busy}) d rfl)
    refine wpIn_mono (ay _ M f x _ aT b4) ?_
    have a1:∀(q:Option Code) (i:a0h),a0A (W.putObj (w.heap.size+1) (.loop {rec .ready none with state:= .busy})) i->
     (Instr.endRound (w.heap.size+1) q).run P i= .ok (.bool q.isNone) (i.putObj (w.heap.size+1) (.loop (rec (if q.isNone then .ready else .done) q)))/\
     i.heap[w.heap.size+1]? =some (.loop {rec .ready none with state:= .busy})/\
     (i.putObj (w.heap.size+1) (.loop (rec (if q.isNone then .ready else .done) q))).heap[w.heap.size+1]? =some (.loop (rec (if q.isNone then .ready else .done) q))/\
     (i.putObj (w.heap.size+1) (.loop (rec (if q.isNone then .ready else .done) q))).heap[w.heap.size]? =some (.deferred (some [])):=λq i j=>by
     have m:=j.same _ _ b3 rfl
     have:=run_endRound (P:=P) q m
     rw [A] at this ⊢
     exact ⟨this,by rw [A] at m;exact m,a0J (Array.getElem?_eq_some_iff.1 m).1,(a0i (by omega)).trans (j.same _ _ b0 rfl)⟩
    rintro e a3 i O
    cases e with
    |normal=>
     obtain ⟨j,b1,u⟩:=O
     obtain ⟨J,m,C,E⟩:=a1 none i j
     refine ⟨_,_,J, .inl ⟨rfl,⟨L _ _ _ _ _ u (cN.put (a6 _ _ _ u) _ (by omega) _ _ m rfl),R,U,C,E⟩,λk b=>?_,?_⟩⟩
     · have e1:k≠w.heap.size+1:=λe=>R (e ▸ b)
       exact ((a0i (by omega)).trans (b1 k b)).trans (a0i (by omega))
     · refine ⟨Nat.le_trans (Nat.le_trans (a0B W (w.heap.size+1) _).size j.size) (a0B i (w.heap.size+1) _).size,λk o H hc=>?_⟩
       by_cases e1:k=w.heap.size+1
       · subst e1
         rw [d] at H
         injection H with H
         subst H
         exact C
       · exact (a0i (by omega)).trans (j.same k o ((a0i (by omega)).trans H) hc)
    |ret=>
     obtain ⟨j,u⟩:=O
     obtain ⟨J,m,C,E⟩:=a1 (some .ret) i j
     exact ⟨_,_,J, .inr ⟨rfl, .ret,a2 _ _ _ _ _ _ u (cN.put (a5 _ _ _ _ u) _ (by omega) _ _ m rfl),C,E⟩⟩
    |exit id=>
     obtain ⟨j,u⟩:=O
     obtain ⟨J,m,C,E⟩:=a1 (some (.exit id)) i j
     exact ⟨_,_,J, .inr ⟨rfl, .exit id,a2 _ _ _ _ _ _ u (cN.put (a5 _ _ _ _ u) _ (by omega) _ _ m rfl),C,E⟩⟩
    |goto t=>
     obtain ⟨j,u⟩:=O
     obtain ⟨J,m,C,E⟩:=a1 (some (.goto t)) i j
     exact ⟨_,_,J, .inr ⟨rfl, .goto t,a2 _ _ _ _ _ _ u (cN.put (a5 _ _ _ _ u) _ (by omega) _ _ m rfl),C,E⟩⟩
    |panic ch=>exact O.elim
    |outgrown=>exact O.elim
   ·
    rintro e W2 ⟨⟨v,rfl⟩,(⟨M,xs,hS,z,R,U,d,b⟩|⟨M,f,au,c,z,d,b⟩)⟩
    · exact ⟨none,_,by have:=run_endLoop (P:=P) d (by rw [A];simp);rw [A] at this;exact this,aC _ M xs _ (a0a _) hS (L _ _ _ _ _ z (cN.put (a6 _ _ _ z) _ (by omega) _ _ d rfl)) ((a0i (by omega)).trans b)⟩
    · exact ⟨some c,_,by have:=run_endLoop (P:=P) d (by rw [A];simp);rw [A] at this;exact this,b9 _ c M f _ (a0a _) au (a2 c _ _ _ _ _ z (cN.put (a5 _ _ _ _ z) _ (by omega) _ _ d rfl)) ((a0i (by omega)).trans b)⟩
end
end
section
open Go.RowKit Go.Shelf
section
variable {P:a0N} {ops:Array Oper} {Q:Exit->Act->a0h->Prop}
theorem pR {n:Nat} {a:String} {args:Array a0k} {w:a0h} {R:a0k->a0h->Prop} (h:Rows P a args w R):RowsIn Fence.wide n P a args w R:=
 λc b _=>let ⟨v,w',r,s⟩:=h c b;⟨v,w',r,stepsIn_wide.2 s⟩
theorem rI {n l:Nat} (b:1<=n) {o:Oper} {a:Act} {K:Act->a0h->Prop} {r:Result Next} (h:o.upon P a K Q r):o.uponIn (Fence.wide.inRound l) n P a K Q r:=by
 cases r with
 |ok x w'=>
  cases x<;>simp only [Oper.upon,Oper.uponIn] at h ⊢ <;>
   first
    |exact h
    |exact ⟨λ_=>b,CallsIn.inRound l (callsIn_wide.2 h)⟩
    |exact ⟨λ_=>b,pR h⟩
 |halt x w'=>cases x<;>simp only [Oper.upon,Oper.uponIn] at h ⊢ <;>exact h
def j6 (ops:Array Oper):Bool:=ops.toList.all λo=>match o.op with | .defer _=>false|_=>true
theorem ou (h:j6 ops=true) {i:Nat} {o:Oper} (a:ops[i]? =some o):∀c,o.op≠ .defer c:=λc e=>by
 unfold j6 at h;rw [List.all_eq_true] at h;have b:o∈ops.toList:=by rw [<- Array.getElem?_toList] at a;exact List.mem_of_getElem? a
 have:=h o b;rw [e] at this;cases this
theorem vR {n l:Nat} (m:1<=n) {e:Region.Mode} (j:j6 ops=true) (p:¬LetsOut Q):∀(c:Nat) (d:Array Bool) (a:Act) (w:a0h),
 wpAny P e ops Q c d a w->wpAnyIn (Fence.wide.inRound l) n P e ops Q c d a w:=by
 intro c;induction c with
 |zero=>intro d a w h;exact h
 |succ c ih=>
  rintro d a w ⟨f,g⟩;refine ⟨f,λi k=>?_⟩;have b:=g i k;unfold wpOp at b;unfold wpOpIn;cases ho:ops[i]? with
  |none=>rw [ho] at b;exact ih _ _ _ b
  |some o=>
   rw [ho] at b;simp only at b ⊢;by_cases hw:Region.wanted o (yielded ops a.tmps)=true
   · rw [if_pos hw] at b ⊢;refine ⟨λ_ _=>trivial,?_⟩;rw [Oper.semAt_eq _ _ _ (ou j ho)];rcases b with b|b
     · exact rI m (Oper.wp_mono (λa w=>ih _ a w) b)
     · exact absurd b.2 p
   · rw [if_neg hw] at b ⊢;exact ⟨λ_ _=>trivial,ih _ _ _ b⟩
theorem lX {id m l:Nat} {b:List Oper} {a:Act} {w:a0h} (S:a0h->Prop) (z:Nat) (e:P.follows .mixedOrders=true) (c:1<=m) (d:j6 b.toArray=true) (f:¬LetsOut Q)
 (h:anyT P .any b.toArray Q S z b.toArray.size (Array.replicate b.toArray.size false) a w.drew):(Code.region id b.toArray true).wpIn (Fence.wide.inRound l) m P Q a w:=
 wpIn_region_any e (vR c d f _ _ _ _ (lH _ _ _ _ h))
end
end
section
open Go.RowKit Go.Maps Go.Shelf
theorem zO (b:Nat) (x y:Int) (w:a0h) (a:w.cell? ⟨b,0,none⟩=some (.int .i64 x)) (c1:w.cell? ⟨b,1,none⟩=some (.int .i64 y)):
 a0s a0d 90 #[.slice (some ⟨b,0,none⟩) 2 2] w λe w'=>e= .returned (.int .i64 (if x≠0 then x else y))/\w=w':=by
 by_cases hx:x=0
 · subst hx;by_cases hy:y=0
   · subst hy;go_enter Tryz.func90,Tryz.ntmps90;go_wp2;refine a0O 3 ?_;rw [a0y];go_wp2;rw [a0y];go_wp2;rw [a0y];go_wp2;go_ret;exact ⟨rfl,rfl⟩
   · go_enter Tryz.func90,Tryz.ntmps90;go_wp2;refine a0O 3 ?_;rw [a0y];go_wp2;rw [a0y];go_wp2;go_ret;exact ⟨rfl,rfl⟩
 · rw [if_pos hx];go_enter Tryz.func90,Tryz.ntmps90;go_wp2;refine a0O 3 ?_;rw [a0y];go_wp2;go_ret;exact ⟨rfl,rfl⟩
theorem tP (W:a0h) (x y:a0k) (t n:Nat) (h:W.heap.size=n):(W.alloc (.cells #[x,y] t)).drew.cell? ⟨n,0,none⟩=some x/\(W.alloc (.cells #[x,y] t)).drew.cell? ⟨n,1,none⟩=some y:=by
 subst h;have a:(W.alloc (.cells #[x,y] t)).heap[W.heap.size]? =some (.cells #[x,y] t (0,0)):=a0c W _;exact ⟨(aa a 0).trans rfl,(aa a 1).trans rfl⟩
def recK (a:RK):a0k:= .agg #[.int .i64 a.1, .int .i64 a.2]
theorem iK (a b:RK) (w:a0h):a0s a0d 25 #[recK a,recK b] w λe w'=>e= .returned (.bool (ltRK a b))/\a0n w.heap.size w w':=by
 obtain ⟨c,f⟩:=a;obtain ⟨d,g⟩:=b;unfold recK ltRK;dsimp only;by_cases h:c=d
 · subst h;go_enter Tryz.func25,Tryz.ntmps25;go_wp2;go_ret;exact ⟨ap (by simp),((a0e _ w).alloc (a0a _) _).alloc (by simp) _⟩
 · have i:(c==d)=false:=by simpa using h
   go_enter Tryz.func25,Tryz.ntmps25;go_wp2;go_ret;exact ⟨ap (by simp [h]),((a0e _ w).alloc (a0a _) _).alloc (by simp) _⟩
theorem eC (a b:RK) (w:a0h):a0s a0d 49 #[recK a,recK b] w λe w'=>e= .returned (.int .i64 (bo a b))/\bl w w':=by
 obtain ⟨g,i⟩:=a;obtain ⟨j,k⟩:=b;unfold recK bo;dsimp only;have z:Hid (∀(x y:Int) (W:a0h),a0s a0d 91 #[.int .i64 x, .int .i64 y] W λe w'=>e= .returned (.int .i64 (eM x y))/\W=w'):=im;have H:Hid (∀(b:Nat) (x y:Int) (w:a0h),w.cell? ⟨b,0,none⟩=some (.int .i64 x)->w.cell? ⟨b,1,none⟩=some (.int .i64 y)->a0s a0d 90 #[.slice (some ⟨b,0,none⟩) 2 2] w λe w'=>e= .returned (.int .i64 (if x≠0 then x else y))/\w=w'):=zO;generalize hp:eM g j=p;generalize hq:eM i k=q;have I:=a0b hp;have J:=a0b hq;clear hp hq;go_enter Tryz.func49,Tryz.ntmps49;go_wp2;have L:(w.alloc (.cells #[.int .i64 g, .int .i64 i] 36)).heap.size=w.heap.size+1:=by simp
 obtain ⟨c,l⟩:∃c,(w.alloc (.cells #[.int .i64 g, .int .i64 i] 36)).alloc (.cells #[.int .i64 j, .int .i64 k] 36)=c:=⟨_,rfl⟩;have m:c.heap[w.heap.size]? =some (.cells #[.int .i64 g, .int .i64 i] 36 (0,0)):=by rw [<- l,a0f _ _ _ (by simp)];exact a0c w _
 have r:c.heap[w.heap.size+1]? =some (.cells #[.int .i64 j, .int .i64 k] 36 (0,0)):=by rw [<- l];have:=a0c (w.alloc (.cells #[.int .i64 g, .int .i64 i] 36)) (.cells #[.int .i64 j, .int .i64 k] 36);rwa [a0l] at this
 have f:c.drew.cell? ⟨w.heap.size,0,none⟩=some (.int .i64 g)/\c.drew.cell? ⟨w.heap.size,1,none⟩=some (.int .i64 i)/\c.drew.cell? ⟨w.heap.size+1,0,none⟩=some (.int .i64 j)/\c.drew.cell? ⟨w.heap.size+1,1,none⟩=some (.int .i64 k):=
  ⟨(aa m 0).trans rfl,(aa m 1).trans rfl,(aa r 0).trans rfl,(aa r 1).trans rfl⟩
 have A:∀o,(c.alloc o).drew.cell? ⟨w.heap.size,0,none⟩=some (.int .i64 g)/\(c.alloc o).drew.cell? ⟨w.heap.size,1,none⟩=some (.int .i64 i)/\(c.alloc o).drew.cell? ⟨w.heap.size+1,0,none⟩=some (.int .i64 j)/\(c.alloc o).drew.cell? ⟨w.heap.size+1,1,none⟩=some (.int .i64 k):=λo=>
  ⟨(aR c o _ _ (ae m)).trans f.1,(aR c o _ _ (ae m)).trans f.2.1,(aR c o _ _ (ae r)).trans f.2.2.1,(aR c o _ _ (ae r)).trans f.2.2.2⟩
 have C:bl w c:=by rw [<- l];exact ((bl.refl w).alloc _).alloc _
 have D:c.heap.size=w.heap.size+2:=by rw [<- l];simp
 have G:=a0b C;rw [l];clear m r l L C;refine wT (λW=>W.cell? ⟨w.heap.size,0,none⟩=some (.int .i64 g)/\W.cell? ⟨w.heap.size,1,none⟩=some (.int .i64 i)/\W.cell? ⟨w.heap.size+1,0,none⟩=some (.int .i64 j)/\W.cell? ⟨w.heap.size+1,1,none⟩=some (.int .i64 k)) 12 ?_;refine tk 0 ?_ rfl f ?_ ?_;rotate_left;intro w' h;go_simp;rfl;refine tk 1 ?_ rfl f ?_ ?_;rotate_left;rintro w' ⟨s,t,u,v⟩;go_simp;rfl;refine tk 2 ?_ rfl f ?_ ?_;rotate_left;intro w' h;go_simp;rfl;refine tk 3 ?_ rfl f ?_ ?_;rotate_left;rintro w' ⟨s,t,u,v⟩;go_simp;rfl;refine tk 5 ?_ rfl f ?_ ?_;rotate_left;intro w' h;go_simp;rfl;refine tk 6 ?_ rfl f ?_ ?_;rotate_left;rintro w' ⟨s,t,u,v⟩;go_simp;rfl;refine tk 7 ?_ rfl f ?_ ?_;rotate_left;intro w' h;go_simp;rfl;refine tk 8 ?_ rfl f ?_ ?_;rotate_left;rintro w' ⟨s,t,u,v⟩;go_simp;rfl;refine dO 4 rfl λK d=>?_;go_simp;go_at_call 91;refine (z _ _ _).mono ?_;rintro e E ⟨rfl,rfl⟩;rw [I.out];refine d _ _ (λ_=>f) ?_;clear d K;refine dO 9 rfl λK d=>?_;go_simp;go_at_call 91;refine (z _ _ _).mono ?_;rintro e E ⟨rfl,rfl⟩;rw [J.out];refine d _ _ (λ_=>f) ?_;clear d K;refine dO 10 rfl λK d=>?_;go_simp;refine d _ _ (λ_=>A _) ?_;clear d K;refine dO 11 rfl λK d=>?_;go_simp;go_at_call 90;refine (H _ _ _ _ (tP c _ _ _ _ D).1 (tP c _ _ _ _ D).2).mono ?_;rintro e E ⟨rfl,rfl⟩;refine d _ _ (λ_=>A _) ?_;clear d K;refine dO 12 rfl λK d=>?_;go_simp;refine d _ _ (λh=>absurd rfl h) ?_;clear d K;refine dN ?_;go_wp2;all_goals go_ret
 all_goals exact ⟨rfl,(G.alloc _).drew⟩
end
section
open Go.RowKit Go.Maps Go.Shelf
def pairV (a:PK):a0k:= .agg #[.int .i64 a.1.1, .int .i64 a.1.2, .int .i64 a.2.1, .int .i64 a.2.2]
def jB (N:Nat) (a b c d e f g h:Int) (W:a0h):Prop:=W.cell? ⟨N,0,none⟩=some (.int .i64 a)/\W.cell? ⟨N,1,none⟩=some (.int .i64 b)/\W.cell? ⟨N,2,none⟩=some (.int .i64 c)/\W.cell? ⟨N,3,none⟩=some (.int .i64 d)/\W.cell? ⟨N+1,0,none⟩=some (.int .i64 e)/\W.cell? ⟨N+1,1,none⟩=some (.int .i64 f)/\W.cell? ⟨N+1,2,none⟩=some (.int .i64 g)/\W.cell? ⟨N+1,3,none⟩=some (.int .i64 h)
theorem pY (W:a0h) (x y:a0k) (t:Nat):(W.alloc (.cells #[x,y] t)).cell? ⟨W.heap.size,0,none⟩=some x/\(W.alloc (.cells #[x,y] t)).cell? ⟨W.heap.size,1,none⟩=some y:=by
 have a:(W.alloc (.cells #[x,y] t)).heap[W.heap.size]? =some (.cells #[x,y] t (0,0)):=a0c W _;exact ⟨(aa a 0).trans rfl,(aa a 1).trans rfl⟩
theorem jX (a b:PK) (w:a0h):a0s a0d 67 #[pairV a,pairV b] w λe w'=>e= .returned (.int .i64 (ni a b))/\bl w w':=by
 obtain ⟨⟨f,g⟩,i,j⟩:=a;obtain ⟨⟨l,m⟩,r,s⟩:=b;unfold pairV ni;dsimp only;have X:Hid (∀(C D E G:Int) (W:a0h),a0s a0d 49 #[.agg #[.int .i64 C, .int .i64 D], .agg #[.int .i64 E, .int .i64 G]] W λe w'=>e= .returned (.int .i64 (bo (C,D) (E,G)))/\bl W w'):=λC D E G=>eC (C,D) (E,G);have HO:Hid (∀(b:Nat) (x y:Int) (w:a0h),w.cell? ⟨b,0,none⟩=some (.int .i64 x)->w.cell? ⟨b,1,none⟩=some (.int .i64 y)->a0s a0d 90 #[.slice (some ⟨b,0,none⟩) 2 2] w λe w'=>e= .returned (.int .i64 (if x≠0 then x else y))/\w=w'):=zO;generalize hp:bo (f,g) (l,m)=p;generalize hq:bo (i,j) (r,s)=q;have HP:=a0b hp;have HQ:=a0b hq;clear hp hq;go_enter Tryz.func67,Tryz.ntmps67;go_wp2;have ad:(w.alloc (.cells #[.int .i64 f, .int .i64 g, .int .i64 i, .int .i64 j] 134)).heap.size=w.heap.size+1:=by simp
 obtain ⟨c,t⟩:∃c,(w.alloc (.cells #[.int .i64 f, .int .i64 g, .int .i64 i, .int .i64 j] 134)).alloc (.cells #[.int .i64 l, .int .i64 m, .int .i64 r, .int .i64 s] 134)=c:=⟨_,rfl⟩;have T:c.heap[w.heap.size]? =some (.cells #[.int .i64 f, .int .i64 g, .int .i64 i, .int .i64 j] 134 (0,0)):=by rw [<- t,a0f _ _ _ (by simp)];exact a0c w _
 have U:c.heap[w.heap.size+1]? =some (.cells #[.int .i64 l, .int .i64 m, .int .i64 r, .int .i64 s] 134 (0,0)):=by rw [<- t];have:=a0c (w.alloc (.cells #[.int .i64 f, .int .i64 g, .int .i64 i, .int .i64 j] 134)) (.cells #[.int .i64 l, .int .i64 m, .int .i64 r, .int .i64 s] 134);rwa [a0l] at this
 have Z:bl w c:=by rw [<- t];exact ((bl.refl w).alloc _).alloc _
 have ao:c.heap.size=w.heap.size+2:=by rw [<- t];simp
 have u:Hid (∀W,a0n c.heap.size c W->jB w.heap.size f g i j l m r s W):=λW Y=>by have z:=(Y.block _ (ae T)).trans T;have A:=(Y.block _ (ae U)).trans U;exact ⟨(aa z 0).trans rfl,(aa z 1).trans rfl,(aa z 2).trans rfl,(aa z 3).trans rfl,(aa A 0).trans rfl,(aa A 1).trans rfl,(aa A 2).trans rfl,(aa A 3).trans rfl⟩
 have k:jB w.heap.size f g i j l m r s c.drew:=u _ (a0e _ c).drew;have a7:=a0b Z;rw [t];clear T U t ad Z;refine wT (λW=>jB w.heap.size f g i j l m r s W) 12 ?_;refine tk 0 ?_ rfl k ?_ ?_;rotate_left;intro w' h;go_simp;rfl;refine tk 1 ?_ rfl k ?_ ?_;rotate_left;rintro w' ⟨H,I,J,L,M,N,O,R⟩;go_simp;rfl;refine tk 2 ?_ rfl k ?_ ?_;rotate_left;intro w' h;go_simp;rfl;refine tk 3 ?_ rfl k ?_ ?_;rotate_left;rintro w' ⟨H,I,J,L,M,N,O,R⟩;go_simp;rfl;refine tk 5 ?_ rfl k ?_ ?_;rotate_left;intro w' h;go_simp;rfl;refine tk 6 ?_ rfl k ?_ ?_;rotate_left;rintro w' ⟨H,I,J,L,M,N,O,R⟩;go_simp;rfl;refine tk 7 ?_ rfl k ?_ ?_;rotate_left;intro w' h;go_simp;rfl;refine tk 8 ?_ rfl k ?_ ?_;rotate_left;rintro w' ⟨H,I,J,L,M,N,O,R⟩;go_simp;rfl;refine dO 4 rfl λK d=>?_;go_simp;go_at_call 49;refine (X _ _ _ _ _).mono ?_;rintro e w2 ⟨rfl,a9⟩;rw [HP.out];have a5:bl c w2:=(bl.refl c).drew.trans a9;have a8:a0n c.heap.size c w2:=a5.below;refine d _ _ (λ_=>u _ a8) ?_;clear d K;refine dO 9 rfl λK d=>?_;go_simp;go_at_call 49;refine (X _ _ _ _ _).mono ?_;rintro e v ⟨rfl,ac⟩;rw [HQ.out];have a6:bl c v:=a5.trans ac;have V:a0n c.heap.size c v:=a6.below;refine d _ _ (λ_=>u _ V) ?_;clear d K;have al:=V.size;refine dO 10 rfl λK d=>?_;go_simp;have a0:∀o,a0n c.heap.size c (v.alloc o):=λo=>V.alloc al o;refine d _ _ (λ_=>u _ (a0 _)) ?_;clear d K;refine dO 11 rfl λK d=>?_;go_simp;go_at_call 90;refine (HO _ _ _ _ (pY v _ _ _).1 (pY v _ _ _).2).mono ?_;rintro e w4 ⟨rfl,rfl⟩;refine d _ _ (λ_=>u _ (a0 _)) ?_;clear d K;refine dO 12 rfl λK d=>?_;go_simp;refine d _ _ (λh=>absurd rfl h) ?_;clear d K;refine dN ?_;go_wp2;all_goals go_ret
 all_goals exact ⟨rfl,a7.trans (a6.alloc _)⟩
end
section
open Go.RowKit Go.Maps Go.Shelf
open Go.WideMaps (KeyLaw)
theorem kU:laidOutB a0d=true:=by kernel_rfl
theorem AI:(36:a0E)<Tryz.prog.types.size:=of_decide_eq_true (by kernel_rfl)
theorem Af:(134:a0E)<Tryz.prog.types.size:=of_decide_eq_true (by kernel_rfl)
theorem Ae:(211:a0E)<Tryz.prog.types.size:=of_decide_eq_true (by kernel_rfl)
theorem A5:Tryz.prog.keyTypeAt 3 36=true:=by kernel_rfl
theorem gj:KeyLaw a0d 36:=deep_law_laid kU (m:=3) (by omega) AI A5 (by rw [Tryz.underlying36])
theorem AM:Tryz.prog.keyTypeAt 4 134=true:=by kernel_rfl
theorem sE:KeyLaw a0d 134:=deep_law_laid kU (m:=4) (by omega) Af AM (by rw [Tryz.underlying134])
theorem AL:Tryz.prog.keyTypeAt 3 211=true:=by kernel_rfl
theorem Aq:KeyLaw a0d 211:=deep_law_laid kU (m:=3) (by omega) Ae AL (by rw [Tryz.underlying211])
def i64B (n:Int):Prop:= -9223372036854775808<=n/\n<=9223372036854775807
def rkOk (a:RK):Prop:=i64B a.1/\i64B a.2
def pkOk (p:PK):Prop:=rkOk p.1/\rkOk p.2
theorem AZ {n:Int} (h:i64B n):(Lit.int .i64 n).wf=true:=by
 obtain ⟨a,b⟩:=h;simp only [Lit.wf,IntKind.min,IntKind.max,IntKind.signed,IntKind.bits];simp;omega
theorem nS:Tryz.prog.types.size=467:=by kernel_rfl
theorem sX:Tryz.prog.cellsOf 3=1:=by kernel_rfl
theorem oV:Tryz.prog.cellsOf 36=2:=by kernel_rfl
theorem rh:Tryz.prog.cellsOf 134=4:=by kernel_rfl
theorem rf:Tryz.prog.cellsOf 211=2:=by kernel_rfl
theorem Au:Tryz.prog.keyType 36=true:=by kernel_rfl
theorem zf:Tryz.prog.keyType 134=true:=by kernel_rfl
theorem ze:Tryz.prog.keyType 211=true:=by kernel_rfl
theorem tR (d:Nat) (n:Int) (h:i64B n):Tryz.prog.keyLits (d+1) 3 [.int .i64 n]=some [.int .i64 n]:=by
 unfold a0u;rw [Tryz.underlying3];simp [AZ h]
theorem sv (d:Nat) (a:RK) (h:rkOk a):Tryz.prog.keyLits (d+2) 36 [.int .i64 a.1, .int .i64 a.2]=some [.int .i64 a.1, .int .i64 a.2]:=by
 unfold a0u;rw [Tryz.underlying36];simp [oV,sX,tR d _ h.1,tR d _ h.2]
theorem yP (d:Nat) (a:RK) (h:rkOk a):Tryz.prog.keyLits (d+2) 211 [.int .i64 a.1, .int .i64 a.2]=some [.int .i64 a.1, .int .i64 a.2]:=by
 unfold a0u;rw [Tryz.underlying211];simp [rf,sX,tR d _ h.1,tR d _ h.2]
theorem yQ (d:Nat) (p:PK) (h:pkOk p):Tryz.prog.keyLits (d+3) 134 [.int .i64 p.1.1, .int .i64 p.1.2, .int .i64 p.2.1, .int .i64 p.2.2]=some [.int .i64 p.1.1, .int .i64 p.1.2, .int .i64 p.2.1, .int .i64 p.2.2]:=by
 unfold a0u;rw [Tryz.underlying134];simp [rh,oV,sv d _ h.1,sv d _ h.2]
def recB:dZ a0d 36 RK where
 kv:=recK
 kl a:= .string (keyBytes [.int .i64 a.1, .int .i64 a.2])
 ok:=rkOk
 keyed:=Keyed.of_law gj
 key a h:=by
  unfold keyOf
  rw [Tryz.underlying36,nS]
  have:=sv 466 a h
  simp only [Au,recK,Value.cells] at this ⊢
  simp [Value.formed,Tryz.underlying36,oV,this]
 inj a b h:=by
  unfold recK at h
  injection h with h
  simp at h
  exact a0K h.1 h.2
def pairB:dZ a0d 134 PK where
 kv:=pairV
 kl p:= .string (keyBytes [.int .i64 p.1.1, .int .i64 p.1.2, .int .i64 p.2.1, .int .i64 p.2.2])
 ok:=pkOk
 keyed:=Keyed.of_law sE
 key a h:=by
  unfold keyOf
  rw [Tryz.underlying134,nS]
  have:=yQ 465 a h
  simp only [zf,pairV,Value.cells] at this ⊢
  simp [Value.formed,Tryz.underlying134,rh,this]
 inj a b h:=by
  unfold pairV at h
  injection h with h
  simp at h
  exact a0K (a0K h.1 h.2.1) (a0K h.2.2.1 h.2.2.2)
def Ak:dZ a0d 211 RK where
 kv:=recK
 kl a:= .string (keyBytes [.int .i64 a.1, .int .i64 a.2])
 ok:=rkOk
 keyed:=Keyed.of_law Aq
 key a h:=by
  unfold keyOf
  rw [Tryz.underlying211,nS]
  have:=yP 466 a h
  simp only [ze,recK,Value.cells] at this ⊢
  simp [Value.formed,Tryz.underlying211,rf,this]
 inj a b h:=by
  unfold recK at h
  injection h with h
  simp at h
  exact a0K h.1 h.2
end
section
open Go.RowKit Go.Maps Go.Shelf
def recI (n:Int):RK:=(1+n.emod 3,1+(n.tdiv 3).emod 4)
theorem cI {fn:Func} {p:Tmp} {c:a0E} (h:fn.results= #[.cell p c]) (b:Array a0k) (P:a0N) (w:a0h):
 (results fn b).run P w=((asAddr (b.getD p undef)).run P w).andThen λa d=>(loadVar c a).run P d:=by
 simp only [results,h];simp [Sem.run_bind,Result.andThen]
theorem r8 (n:Int) (w:a0h) (k: -9223372036854775808<=n/\n<=9223372036854775807):a0s a0d 20 #[.int .i64 n] w λe w'=>e= .returned (recK (recI n))/\a0n w.heap.size w w':=by
 unfold recI recK;dsimp only;have i:0<=n.emod 3/\n.emod 3<3:=⟨Int.emod_nonneg _ (by omega),Int.emod_lt_of_pos _ (by omega)⟩;have j:0<=(n.tdiv 3).emod 4/\(n.tdiv 3).emod 4<4:=⟨Int.emod_nonneg _ (by omega),Int.emod_lt_of_pos _ (by omega)⟩;have c:Hid (∀W,a0s a0d 24 #[.int .i64 n, .int .i64 3] W λe w'=>e= .returned (.int .i64 (n.emod 3))/\W=w'):=λW=>jj n 3 W (by omega) (by omega);have d:Hid (∀W,a0s a0d 24 #[.int .i64 (n.tdiv 3), .int .i64 4] W λe w'=>e= .returned (.int .i64 ((n.tdiv 3).emod 4))/\W=w'):=λW=>jj _ 4 W (by omega) (by omega);have l: -4611686018427387904<=n.tdiv 3/\n.tdiv 3<=4611686018427387904:=(by
  rcases Int.le_total 0 n with h|h
  · rw [a0I h];omega
  · have f:n.tdiv 3= -((-n).tdiv 3):=by rw [Int.neg_tdiv];omega
    rw [f,a0I (by omega)];omega)
 generalize n.emod 3=a at *;generalize (n.tdiv 3).emod 4=b at *;go_enter Tryz.func20,Tryz.ntmps20
 go_wp2_with (first
  |(go_at_call 24;((with_reducible refine a0m (c.out _) ?_);rintro e g ⟨rfl,rfl⟩))
  |(go_at_call 24;((with_reducible refine a0m (d.out _) ?_);rintro e g ⟨rfl,rfl⟩)))
 refine bodyPost_ret (v:= .agg #[.int .i64 (1+a), .int .i64 (1+b)]) (by rw [cI rfl];go_simp) rfl ?_;exact ⟨rfl,(a0e _ w).alloc (a0a _) _⟩
end
section
open Go.RowKit Go.Maps Go.Shelf
def rkCells (a:RK):List a0k:=[.int .i64 a.1, .int .i64 a.2]
def d9 (lo a:Nat) (w:a0h) (v:a0k) (l:List RK):Prop:=aH lo a w v l.length (l.flatMap rkCells)
theorem d9.one {lo g:Nat} {w:a0h} {v:a0k} {l:List RK} (h:d9 lo g w v l) (i:Nat) (e:i<l.length):
 ∃b c d,v= .slice (some ⟨b,c,none⟩) l.length d/\lo<=b/\b<g/\w.cell? ⟨b,c+i * 2,none⟩=some (.int .i64 l[i].1)/\w.cell? ⟨b,c+i * 2+1,none⟩=some (.int .i64 l[i].2):=by
 obtain ⟨a,d,r,h⟩:=h;have q:l.flatMap rkCells≠[]:=by
  cases l with
  |nil=>simp at e
  |cons s l=>simp [rkCells]
 obtain ⟨b,c,p,m,o,f⟩:=h q;subst p;have j:=de rkCells 2 (λ_=>rfl) l i e 0 (by omega);have k:=de rkCells 2 (λ_=>rfl) l i e 1 (by omega);exact ⟨b,c,d,r,m,o,f _ _ j,by rw [Nat.add_assoc];exact f _ _ k⟩
theorem d9.kept {lo a:Nat} {w w':a0h} {v:a0k} {l:List RK} (h:d9 lo a w v l) (k:iZ lo a w w'):d9 lo a w' v l:=aH.kept h k
theorem ck (u v:a0k) (l m:List RK) (w:a0h) (s:d9 0 w.heap.size w u l) (t:d9 0 w.heap.size w v m) (hl:l.length<=1000000) (hm:m.length<=1000000):
 a0s a0d 17 #[u,v] w λe w'=>e= .returned (.bool (decide (l=m)))/\a0n w.heap.size w w':=by
 have E:=a0b s;have G:=a0b t;obtain ⟨a,c,rfl,_⟩:=s;obtain ⟨N,R,rfl,_⟩:=t;by_cases hlm:l.length=m.length
 · have L:((l.length:Int)!=(m.length:Int))=false:=by simp;omega
   have a2:m.length<=l.length:=by omega
   have a1:l.length<=m.length:=by omega
   have M:=a0b hlm;clear hlm;go_enter Tryz.func17,Tryz.ntmps17;go_wp2_with fail
   go_loopw [5] (λi wr=>∃k:Nat,k<=l.length/\i= .int .i64 k/\Hid (l.take k=m.take k)/\a0n w.heap.size w wr) (λi _=>l.length - (intOf i).toNat)
   case atStart=>exact ⟨0,a0C _,rfl,rfl,a0e _ _⟩
   case round=>
    obtain ⟨k,Z,rfl,j,d⟩:=hrel;by_cases hlt:k<l.length
    · have r:k<m.length:=by omega
      obtain ⟨b,a3,T,f,_,W,H,c1⟩:=(d9.kept E.out (bd d (a0a _))).one k hlt;cases f;obtain ⟨O,a4,U,f,_,X,I,J⟩:=(d9.kept G.out (bd d (a0a _))).one k r;cases f;have a0:(k:Int)<(m.length:Int):=by omega
      have o:Hid (l.take (k+1)=l.take k++[l[k]]/\m.take (k+1)=m.take k++[m[k]]):=⟨a0j hlt,a0j r⟩;have D:Hid (l=m->l[k]=m[k]):=λh=>by subst h;rfl
      generalize l[k]=p at *;generalize m[k]=q at *;obtain ⟨x,y⟩:=p;obtain ⟨z,A⟩:=q;dsimp only at H c1 I J;have Y:b<wr.heap.size:=by have:=d.size;omega
      by_cases hpq:x=z/\y=A
      · obtain ⟨rfl,rfl⟩:=hpq;go_wp2_with fail
        go_region;go_wp2_with fail
        go_roundw
        case rel=>exact ⟨k+1,by omega,by go_num,by unfold Hid;rw [o.out.1,o.out.2,j.out],d.drew⟩
        case measure=>simp [intOf];omega
      · have g:Hid (l≠m):=λh=>hpq (Prod.mk.inj (D h));by_cases h1:x=z
        · have V:¬y=A:=λh=>hpq ⟨h1,h⟩;subst h1;clear hpq;go_wp2_with fail
          go_region;go_wp2_with fail
          go_ret;exact ⟨ap (by symm;exact decide_eq_false g.out),d.drew⟩
        · clear hpq;go_wp2_with fail
          go_region;go_wp2_with fail
          go_ret;exact ⟨ap (by symm;exact decide_eq_false g.out),d.drew⟩
    · have C:Hid (l=m):=by have:=j.out;rw [a0o (by omega),a0o (by omega)] at this;exact this
      go_wp2_with fail
      go_ret;exact ⟨ap (by symm;exact decide_eq_true C.out),d⟩
 · have L:((l.length:Int)!=(m.length:Int))=true:=by simp;omega
   go_enter Tryz.func17,Tryz.ntmps17;go_wp2_with fail
   go_ret;exact ⟨ap (by symm;exact decide_eq_false (λh=>hlm (by rw [h]))),a0e _ _⟩
end
section
open Go.RowKit Go.Maps Go.Shelf
theorem Aw:(Tryz.prog.info? 123).map (λi=>(i.zero,i.size,i.bytes))=some (some (.agg #[.string ⟨#[]⟩, .string ⟨#[]⟩, .string ⟨#[]⟩, .slice none 0 0]),4,72):=by kernel_rfl
theorem zi:(Tryz.prog.info? 120).map (λi=>(i.zero,i.size,i.bytes))=some (some (.agg #[.int .u8 0, .string ⟨#[]⟩]),2,24):=by kernel_rfl
theorem i36:(Tryz.prog.info? 36).map (λi=>(i.zero,i.size,i.bytes))=some (some (.agg #[.int .i64 0, .int .i64 0]),2,16):=by kernel_rfl
theorem vE (v:a0k) (n:Nat) (f:List a0k) (w:a0h) (h:aH 0 w.heap.size w v n f) (g:f.length=n * 4) (i:∀u∈f,u.oneCell'=true) (T:n<=1000000):
 a0s a0d 106 #[v] w λe w'=>∃d,e= .returned d/\w'.ownsRow w.heap.size 123 4 d n f/\a0n w.heap.size w w':=by
 have z:=a0b h;obtain ⟨a,c,rfl,h⟩:=h;have V:∀(w:a0h) (a:Option Addr) (n c:Nat),(binOp .eql 60 (.slice a n c) (.slice none 0 0)).run a0d w= .ok (.bool a.isNone) w:=λw a n c=>a0z w 60 _ a n c 0 0 Tryz.underlying60;cases a with
 |none=>
  have H:f=[]:=by
   rcases f with _|⟨x,f⟩
   · rfl
   · obtain ⟨b,U,C,_⟩:=h (by simp);cases C
  subst H;have G:n=0:=by simp at g;omega
  subst G;clear h i g;go_enter Tryz.func106,Tryz.ntmps106;go_wp2_with fail
  go_ret;exact ⟨_,rfl,a0D _ _ _ _,a0e _ _⟩
 |some a=>
  clear h;obtain ⟨M,D,I,J,L⟩:=info_parts Aw;have s:=a0b g;have q:=a0b i;have A:Hid (∀o,aH 0 (w.alloc o).heap.size (w.alloc o) (.slice (some a) n c) n f):=λo=>(z.out.kept (λk _ E=>a0f w o k E)).mono (a0a _) (by simp);have y:Hid ((w.alloc (.cells #[] 123)).ownsRow w.heap.size 123 4 (.slice (some ⟨w.heap.size,0,none⟩) 0 0) 0 []):=cX (a0c w _) (a0a _);clear g i;go_enter Tryz.func106,Tryz.ntmps106;go_wp2_with (at_builtin;refine aA _ rfl _ _ 60 rfl w.heap.size 123 M (.agg #[.string ⟨#[]⟩, .string ⟨#[]⟩, .string ⟨#[]⟩, .slice none 0 0]) 4 72 Tryz.underlying60 D I J L rfl (by decide) w.heap.size 0 0 [] rfl y.out _ _ n f rfl (A.out _) s.out q.out (by unfold maxLen;omega) (by omega) (by simp) ?_;intro N O w1 p l R;have t:=a0b p;have r:=a0b l;clear p l)
  go_ret;refine ⟨_,rfl,?_,?_⟩
  · have:=t.out;rw [a0F,a0G] at this;exact this
  · exact ((a0e _ w).alloc (a0a _) _).grown r.out (by simp) (λj m=>by injection m with m;omega)
theorem vD (v:a0k) (n:Nat) (f:List a0k) (w:a0h) (h:aH 0 w.heap.size w v n f) (g:f.length=n * 2) (i:∀u∈f,u.oneCell'=true) (T:n<=1000000):
 a0s a0d 107 #[v] w λe w'=>∃d,e= .returned d/\w'.ownsRow w.heap.size 120 2 d n f/\a0n w.heap.size w w':=by
 have z:=a0b h;obtain ⟨a,c,rfl,h⟩:=h;have V:∀(w:a0h) (a:Option Addr) (n c:Nat),(binOp .eql 121 (.slice a n c) (.slice none 0 0)).run a0d w= .ok (.bool a.isNone) w:=λw a n c=>a0z w 121 _ a n c 0 0 Tryz.underlying121;cases a with
 |none=>
  have H:f=[]:=by
   rcases f with _|⟨x,f⟩
   · rfl
   · obtain ⟨b,U,C,_⟩:=h (by simp);cases C
  subst H;have G:n=0:=by simp at g;omega
  subst G;clear h i g;go_enter Tryz.func107,Tryz.ntmps107;go_wp2_with fail
  go_ret;exact ⟨_,rfl,a0D _ _ _ _,a0e _ _⟩
 |some a=>
  clear h;obtain ⟨M,D,I,J,L⟩:=info_parts zi;have s:=a0b g;have q:=a0b i;have A:Hid (∀o,aH 0 (w.alloc o).heap.size (w.alloc o) (.slice (some a) n c) n f):=λo=>(z.out.kept (λk _ E=>a0f w o k E)).mono (a0a _) (by simp);have y:Hid ((w.alloc (.cells #[] 120)).ownsRow w.heap.size 120 2 (.slice (some ⟨w.heap.size,0,none⟩) 0 0) 0 []):=cX (a0c w _) (a0a _);clear g i;go_enter Tryz.func107,Tryz.ntmps107;go_wp2_with (at_builtin;refine aA _ rfl _ _ 121 rfl w.heap.size 120 M (.agg #[.int .u8 0, .string ⟨#[]⟩]) 2 24 Tryz.underlying121 D I J L rfl (by decide) w.heap.size 0 0 [] rfl y.out _ _ n f rfl (A.out _) s.out q.out (by unfold maxLen;omega) (by omega) (by simp) ?_;intro N O w1 p l R;have t:=a0b p;have r:=a0b l;clear p l)
  go_ret;refine ⟨_,rfl,?_,?_⟩
  · have:=t.out;rw [a0F,a0G] at this;exact this
  · exact ((a0e _ w).alloc (a0a _) _).grown r.out (by simp) (λj m=>by injection m with m;omega)
theorem xV (v:a0k) (n:Nat) (f:List a0k) (w:a0h) (h:aH 0 w.heap.size w v n f) (g:f.length=n * 2) (i:∀u∈f,u.oneCell'=true) (T:n<=1000000):
 a0s a0d 52 #[v] w λe w'=>∃d,e= .returned d/\w'.ownsRow w.heap.size 36 2 d n f/\a0n w.heap.size w w':=by
 have z:=a0b h;obtain ⟨a,c,rfl,h⟩:=h;have V:∀(w:a0h) (a:Option Addr) (n c:Nat),(binOp .eql 52 (.slice a n c) (.slice none 0 0)).run a0d w= .ok (.bool a.isNone) w:=λw a n c=>a0z w 52 _ a n c 0 0 Tryz.underlying52;cases a with
 |none=>
  have H:f=[]:=by
   rcases f with _|⟨x,f⟩
   · rfl
   · obtain ⟨b,U,C,_⟩:=h (by simp);cases C
  subst H;have G:n=0:=by simp at g;omega
  subst G;clear h i g;go_enter Tryz.func52,Tryz.ntmps52;go_wp2_with fail
  go_ret;exact ⟨_,rfl,a0D _ _ _ _,a0e _ _⟩
 |some a=>
  clear h;obtain ⟨M,D,I,J,L⟩:=info_parts i36;have s:=a0b g;have q:=a0b i;have A:Hid (∀o,aH 0 (w.alloc o).heap.size (w.alloc o) (.slice (some a) n c) n f):=λo=>(z.out.kept (λk _ E=>a0f w o k E)).mono (a0a _) (by simp);have y:Hid ((w.alloc (.cells #[] 36)).ownsRow w.heap.size 36 2 (.slice (some ⟨w.heap.size,0,none⟩) 0 0) 0 []):=cX (a0c w _) (a0a _);clear g i;go_enter Tryz.func52,Tryz.ntmps52;go_wp2_with (at_builtin;refine aA _ rfl _ _ 52 rfl w.heap.size 36 M (.agg #[.int .i64 0, .int .i64 0]) 2 16 Tryz.underlying52 D I J L rfl (by decide) w.heap.size 0 0 [] rfl y.out _ _ n f rfl (A.out _) s.out q.out (by unfold maxLen;omega) (by omega) (by simp) ?_;intro N O w1 p l R;have t:=a0b p;have r:=a0b l;clear p l)
  go_ret;refine ⟨_,rfl,?_,?_⟩
  · have:=t.out;rw [a0F,a0G] at this;exact this
  · exact ((a0e _ w).alloc (a0a _) _).grown r.out (by simp) (λj m=>by injection m with m;omega)
theorem vh (ps:List (af×a0k)):∀(m i:Nat) (u:a0k) (q:af×a0k) (a:m<ps.length),i<4->(fieldCells ps[m]).set i u=fieldCells q->(ps.flatMap fieldCells).set (m * 4+i) u=(ps.set m q).flatMap fieldCells:=by
 induction ps with
 |nil=>intro m i u q a;simp at a
 |cons p ps ih=>
  intro m i u q a d b;cases m with
  |zero=> simp only [List.getElem_cons_zero] at b;rw [a0t,List.set_append_left _ _ (by simp [fieldCells];omega),Nat.zero_mul,a0F,b];rfl
  |succ m=>
   simp only [List.getElem_cons_succ] at b;have c:(fieldCells p).length=4:=by simp [fieldCells]
   rw [a0t,List.set_append_right _ _ (by rw [c];omega),c,show (m+1) * 4+i - 4=m * 4+i from by omega,ih m i u q (by simpa using a) d b];rfl
theorem vk (ps:List (af×a0k)):∀(m i:Nat) (a:m<ps.length),i<4->(ps.flatMap fieldCells)[m * 4+i]? =(fieldCells ps[m])[i]? :=λm i a b=>by
 rw [de fieldCells 4 (λ_=>rfl) ps m a i b]
theorem oL (ps:List (af×a0k)):∀u∈ps.flatMap fieldCells,(∀p∈ps,p.2.oneCell'=true)->u.oneCell'=true:=by
 intro u a c;obtain ⟨p,b,a⟩:=List.mem_flatMap.1 a;simp only [fieldCells,List.mem_cons,List.not_mem_nil,or_false] at a;rcases a with rfl|rfl|rfl|rfl
 · rfl
 · rfl
 · rfl
 · exact c p b
theorem rQ (b:List ci):∀u∈b.flatMap subCells,u.oneCell'=true:=by
 intro u a;obtain ⟨p,c,a⟩:=List.mem_flatMap.1 a;simp only [subCells,List.mem_cons,List.not_mem_nil,or_false] at a;rcases a with rfl|rfl<;>rfl
theorem vi (ps:List (af×a0k)):(ps.flatMap fieldCells).length=ps.length * 4:=by
 induction ps with
 |nil=>rfl
 |cons p ps ih=>rw [a0t,a0R,ih];simp [fieldCells];omega
theorem vj (a:List ci):(a.flatMap subCells).length=a.length * 2:=by
 induction a with
 |nil=>rfl
 |cons p ps ih=>rw [a0t,a0R,ih];simp [subCells];omega
structure fT (W0 L wc:Nat) (d:a0k) (fs:List af) (k:Nat) (wr:a0h):Prop where
 ex:∃ps:List (af×a0k),ps.map (·.1)=fs/\wr.ownsRow L 123 4 d fs.length (ps.flatMap fieldCells)/\
  (∀j (hj:j<ps.length),j<k->az wc wr.heap.size wr ps[j].2 ps[j].1.subs)/\(∀j (hj:j<ps.length),k<=j->az 0 W0 wr ps[j].2 ps[j].1.subs)
 blk:∀g,d.ownBlock=some g->L<=g/\g<wc
 big:W0<=L/\L<=wc/\wc<=wr.heap.size
theorem fT.start {w wc:a0h} {L:Nat} {d:a0k} {ps:List (af×a0k)} {a:List af} (k:ps.map (·.1)=a) (l:∀p∈ps,az 0 w.heap.size w p.2 p.1.subs) (e:w.heap.size<=L) (f:L<=wc.heap.size) (h:a0n w.heap.size w wc) (c:wc.ownsRow L 123 4 d a.length (ps.flatMap fieldCells)):
 fT w.heap.size L wc.heap.size d a 0 wc:=by
 refine ⟨⟨ps,k,c,λj b m=>by omega,λj b _=>(l _ (a0w b)).kept (bd h (a0a _))⟩,λg i=>c.lt g i,e,f,a0a _⟩
theorem fT.far {a L wc k:Nat} {d:a0k} {l:List af} {wr w':a0h} (h:fT a L wc d l k wr) (f:∀q,q<a∨L<=q->q<wr.heap.size->w'.heap[q]? =wr.heap[q]?) (s:wr.heap.size<=w'.heap.size):fT a L wc d l k w':=by
 obtain ⟨ps,o,b,p,r⟩:=h.ex;have m:=h.big;refine ⟨⟨ps,o,ah b (λq g=>f q (.inr (b.lt q g).1) (b.lt q g).2),λj c e=>((p j c e).kept (λq g i=>f q (.inr (by omega)) i)).mono (a0a _) s,λj c e=>(r j c e).kept (λq _ i=>f q (.inl i) (by omega))⟩,h.blk,m.1,m.2.1,by omega⟩
theorem fT.form {c L wc k:Nat} {d:a0k} {b:List af} {wr:a0h} (h:fT c L wc d b k wr) (i:k<b.length):∃g a,d= .slice (some ⟨g,0,none⟩) b.length a:=by
 obtain ⟨l,j,f,_⟩:=h.ex;obtain ⟨g,a,e,_⟩:=World.ownsRow.form f (by omega);exact ⟨g,a,e⟩
theorem fT.cell {b L wc k:Nat} {g j:Nat} {a:List af} {wr:a0h} (h:fT b L wc (.slice (some ⟨g,0,none⟩) a.length j) a k wr) (p:k<a.length):
 ∃c,wr.cell? ⟨g,k * 4+3,none⟩=some c/\az 0 b wr c a[k].subs/\∀i,wr.frozen? ⟨g,i,none⟩=false:=by
 obtain ⟨ps,d,e,o,m⟩:=h.ex;have q:ps.length=a.length:=by rw [<- d];simp
 have f:k<ps.length:=by omega
 have l:ps[k].1=a[k]:=by simp [<- d]
 refine ⟨ps[k].2,?_,by rw [<- l];exact m k f (a0a _),λi=>e.frozenAt i⟩;rw [e.cellAt (k * 4+3) (by omega),vk ps k 3 f (by omega)];rfl
theorem fT.put {o L wc k:Nat} {d a:a0k} {b:List af} {wr c:a0h} (h:fT o L wc d b k wr) (s:k<b.length) (i:a0n wr.heap.size wr c) (M:c.ownsRow wr.heap.size 120 2 a b[k].subs.length (b[k].subs.flatMap subCells)) {g v:Nat} (r:d= .slice (some ⟨g,0,none⟩) b.length v):
 fT o L wc d b (k+1) (c.setCell ⟨g,k * 4+3,none⟩ a):=by
 obtain ⟨ps,m,p,z,A⟩:=h.ex;have t:k<ps.length:=by rw [<- m] at s;simpa using s
 obtain ⟨R,O⟩:=h.blk g (by rw [r];rfl);have N:=i.size;obtain ⟨E,G,H⟩:=h.big;have w:ps[k].1=b[k]:=by simp [<- m]
 have y:c.ownsRow L 123 4 d b.length (ps.flatMap fieldCells):=ah p (λq l=>i.block q (p.lt q l).2);have I:az wc (c.setCell ⟨g,k * 4+3,none⟩ a).heap.size (c.setCell ⟨g,k * 4+3,none⟩ a) a b[k].subs:=by have C:az wr.heap.size c.heap.size c a b[k].subs:=bm M;have D:=C.kept (w':=c.setCell ⟨g,k * 4+3,none⟩ a) (λq l _=>a0g _ _ _ _ (by simp;omega));exact D.mono H (by rw [a0r];exact a0a _)
 refine ⟨⟨ps.set k (ps[k].1,a),?_,?_,λj f J=>?_,λj f J=>?_⟩,h.blk,E,G,by rw [a0r];omega⟩
 · rw [List.map_set, <- m];have:ps[k].1=(List.map (λx:af×a0k=>x.1) ps)[k]'(by simpa using t):=by simp
   rw [this,List.set_getElem_self]
 · subst r;have:=(y.stored (k * 4+3) a).1;rw [vh ps k 3 a (ps[k].1,a) t (by omega) (by simp [fieldCells])] at this;exact this
 · rw [List.length_set] at f;simp only [List.getElem_set];split
   · rename_i e;rw [w];exact I
   · rename_i e;refine ((z j f (by omega)).kept (λq l u=>?_)).mono (a0a _) (by rw [a0r];exact N);rw [a0g _ _ _ _ (by simp;omega)];exact i.block q u
 · rw [List.length_set] at f;simp only [List.getElem_set];rw [if_neg (by omega)];refine (A j f (by omega)).kept (λq l u=>?_);rw [a0g _ _ _ _ (by simp;omega)];exact i.block q (by omega)
theorem fT.done {c L wc k:Nat} {d:a0k} {a:List af} {wr:a0h} (h:fT c L wc d a k wr) (m:a.length<=k):ai L wr.heap.size wr d a:=by
 obtain ⟨ps,b,e,f,_⟩:=h.ex;have o:ps.length=a.length:=by rw [<- b];simp
 have g:=h.big;refine ⟨ps,b,λp l=>?_,bm e⟩;obtain ⟨j,i,rfl⟩:=List.getElem_of_mem l;exact (f j i (by omega)).mono g.2.1 (a0a _)
theorem ym {lo b:Nat} {w:a0h} {v:a0k} {d:List ci} (h:az lo b w v d):v.oneCell'=true:=by
 obtain ⟨a,c,rfl,_⟩:=h;rfl
def rB (B:Nat) (a b:UInt8) (d:a0k) (w:a0h):Prop:=w.heap[B]? =some (.cells #[.int .u8 a.toNat, .int .u8 b.toNat,d] 62 (0,0))/\w.heap[B+1]? =some (.cells #[.int .u8 0, .int .u8 0, .slice none 0 0] 62 (0,0))
theorem rB.far {B:Nat} {a b:UInt8} {d:a0k} {w w':a0h} (h:rB B a b d w) (c:w'.heap[B]? =w.heap[B]?) (e:w'.heap[B+1]? =w.heap[B+1]?):rB B a b d w':=⟨c.trans h.1,e.trans h.2⟩
theorem wV (v:a0k) (r:aB) (w:a0h) (h:d7 0 w.heap.size w v r) (hn:r.fields.length<=1000000) (hs:∀f∈r.fields,f.subs.length<=1000000):
 a0s a0d 60 #[v] w λe w'=>∃v',e= .returned v'/\d7 w.heap.size w'.heap.size w' v' r/\a0n w.heap.size w w':=by
 obtain ⟨m,o,a⟩:=r;obtain ⟨x,rfl,hx⟩:=h;obtain ⟨ps,R,a1,a0⟩:=hx;dsimp only at R hn hs a0;unfold fq;dsimp only;obtain ⟨c,M⟩:∃c,(w.alloc (.cells #[.int .u8 m.toNat, .int .u8 o.toNat,x] 62)).alloc (.cells #[.int .u8 0, .int .u8 0, .slice none 0 0] 62)=c:=⟨_,rfl⟩;have O:a0n w.heap.size w c:=by rw [<- M];exact ((a0e _ w).alloc (a0a _) _).alloc (by simp) _
 have al:c.heap.size=w.heap.size+2:=by rw [<- M];simp
 have X:rB w.heap.size m o x c:=by
  refine ⟨?_,?_⟩
  · rw [<- M,a0f _ _ _ (by simp)];exact a0c w _
  · rw [<- M];have:=a0c (w.alloc (.cells #[.int .u8 m.toNat, .int .u8 o.toNat,x] 62)) (.cells #[.int .u8 0, .int .u8 0, .slice none 0 0] 62);rwa [a0l] at this
 have ad:aH 0 c.heap.size c x a.length (ps.flatMap fieldCells):=(a0.kept (bd O (a0a _))).mono (a0a _) O.size;have a9:ps.length=a.length:=by rw [<- R];simp
 have HC:=a0b (vE x a.length (ps.flatMap fieldCells) c ad (by rw [vi,a9]) (λu hu=>oL ps u hu λp hp=>ym (a1 p hp)) (by omega));have aC:=a0b R;have aT:=a0b a1;have E:=a0b O;have a2:c.cell? ⟨w.heap.size,2,none⟩=some x:=by rw [aa X.1];rfl
 have HA:=a0b X;have aS:=a0b hs;have A:=a0b al;clear ad a0 a1 O a9 X R hs al;go_enter Tryz.func60,Tryz.ntmps60;go_wp2_with (go_at_call 106;((with_reducible refine a0m HC.out ?_);rintro e wc ⟨d,rfl,Y,N⟩;obtain ⟨l,b,rfl⟩:=aK Y;have I:rB w.heap.size m o x wc:=HA.out.far (N.block _ (by rw [A.out];omega)) (N.block _ (by rw [A.out];omega));have c2:wc.cell? ⟨w.heap.size,2,none⟩=some x:=(aa I.1 2).trans rfl;have f2:=ab I.1 2;have HR:=a0b Y;have U:=a0b N;have a3:=a0b I;clear Y N I))
 have hO:=fT.start aC.out aT.out (L:=c.heap.size) E.size U.size (btr E.out U.out E.size) HR.out
 have a5:fT w.heap.size c.heap.size wc.heap.size (.slice l a.length b) a 0 (wc.setCell ⟨w.heap.size,2,none⟩ (.slice l a.length b)):=
  hO.far (λq hq _=>a0g _ _ _ _ (by have:=A.out;simp;omega)) (by rw [a0r];exact a0a _)
 have a6:rB w.heap.size m o (.slice l a.length b) (wc.setCell ⟨w.heap.size,2,none⟩ (.slice l a.length b)):=by
  refine ⟨?_,?_⟩
  · rw [an a3.out.1];rfl
  · rw [a0g _ _ _ _ (by simp)];exact a3.out.2
 have a4:a0n w.heap.size w (wc.setCell ⟨w.heap.size,2,none⟩ (.slice l a.length b)):=(btr E.out U.out E.out.size).setCell (by simp) _;have ay:=a0b a5;have b0:=a0b a6;have ao:=a0b a4;clear hO a5 a6 a4;go_loopw [3,11] (λ_a i wr=>∃k:Nat,k<=a.length/\i= .int .i64 k/\Hid (fT w.heap.size c.heap.size wc.heap.size (.slice l a.length b) a k wr)/\Hid (rB w.heap.size m o (.slice l a.length b) wr)/\Hid (a0n w.heap.size w wr)) (λ_ i _=>a.length - (intOf i).toNat)
 case atStart=>exact ⟨0,a0C _,rfl,ay,b0,ao⟩
 case round=>
  obtain ⟨k,hk,rfl,z,j,D⟩:=hrel;have e2:wr.cell? ⟨w.heap.size,2,none⟩=some (.slice l a.length b):=by rw [aa j.out.1];rfl
  by_cases hlt:k<a.length
  · obtain ⟨g,b3,he⟩:=z.form hlt;cases he;obtain ⟨G,a7,ac,a8⟩:=z.cell hlt;have b2:w.heap.size+2<=g/\g<wr.heap.size:=by have:=z.out.blk g rfl;have:=z.out.big;have:=A.out;omega
    have av:=a0b (vD G a[k].subs.length (a[k].subs.flatMap subCells) wr.drew ((show az 0 w.heap.size wr.drew G a[k].subs from ac).mono (a0a _) D.size) (vj _) (rQ _) (aS _ (a0w hlt)));have J:wr.drew.cell? ⟨w.heap.size,2,none⟩=some (.slice (some ⟨g,0,none⟩) a.length b)/\wr.drew.cell? ⟨g,k * 4+3,none⟩=some G:=⟨e2,a7⟩;have b4:(k:Int)<(a.length:Int):=by omega
    have ax:=a0b (a8 (k * 4+3));clear ac a8 a7 e2;go_wp2_with fail
    refine wT (λw'=>w'.cell? ⟨w.heap.size,2,none⟩=some (.slice (some ⟨g,0,none⟩) a.length b)/\w'.cell? ⟨g,k * 4+3,none⟩=some G) 12 ?_;have T:=tkL [0,2,3,5,1,4,6,7,8];repeat (refine tkI T ?_ rfl J ?_ ?_;rotate_left;intro w' h;obtain ⟨h0,h1⟩:=h;go_simp;rfl;(try go_simp);replace T:=tkO T)
    clear T;refine dO 9 rfl λK s=>?_;go_simp;go_at_call 107;refine av.mono ?_;rintro e y ⟨dd,rfl,Z,t⟩;obtain ⟨V,W,rfl⟩:=aK Z;have C:a0n wr.heap.size wr y:=⟨t.os,t.tape,t.output,t.size,t.block⟩;have H:y.cell? ⟨w.heap.size,2,none⟩=some (.slice (some ⟨g,0,none⟩) a.length b)/\y.cell? ⟨g,k * 4+3,none⟩=some G:=⟨fd t _ _ J.1,fd t _ _ J.2⟩;refine s _ _ (λ_=>H) ?_;clear s K;have c9:=H.2;have f9:y.frozen? ⟨g,k * 4+3,none⟩=false:=by rw [(aE C).2 _ _ b2.2];exact ax.out
    refine dO 10 rfl λK s=>?_;go_simp;refine s _ _ (λ_=>H) ?_;clear s K;refine tk 11 ?_ rfl H ?_ ?_;rotate_left;intro w' h;obtain ⟨h0,h1⟩:=h;go_simp;rfl;try go_simp
    refine dO 12 rfl λK s=>?_;go_simp;refine s _ _ (λh=>absurd rfl h) ?_;clear s K;refine dN ?_;have HN:Hid (fT w.heap.size c.heap.size wc.heap.size (.slice (some ⟨g,0,none⟩) a.length b) a (k+1) (y.setCell ⟨g,k * 4+3,none⟩ (.slice V a[k].subs.length W))):=z.put hlt C Z rfl;have b1:Hid (rB w.heap.size m o (.slice (some ⟨g,0,none⟩) a.length b) (y.setCell ⟨g,k * 4+3,none⟩ (.slice V a[k].subs.length W))):=by
     have b5:=D.size;refine j.far ?_ ?_
     · rw [a0g _ _ _ _ (by simp;omega)];exact C.block _ (by omega)
     · rw [a0g _ _ _ _ (by simp;omega)];exact C.block _ (by omega)
    have au:Hid (a0n w.heap.size w (y.setCell ⟨g,k * 4+3,none⟩ (.slice V a[k].subs.length W))):=(btr D.out C D.out.size).setCell (by simp;omega) _;clear J H c9 f9 Z t C;go_wp2_with fail
    go_roundw
    case rel=>exact ⟨k+1,by omega,by go_num,HN,b1,au⟩
    case measure=>simp [intOf];omega
  · have c0:wr.cell? ⟨w.heap.size,0,none⟩=some (.int .u8 m.toNat):=by rw [aa j.out.1];rfl
    have c1:wr.cell? ⟨w.heap.size,1,none⟩=some (.int .u8 o.toNat):=by rw [aa j.out.1];rfl
    have d0:wr.cell? ⟨w.heap.size+1,0,none⟩=some (.int .u8 0):=by rw [aa j.out.2];rfl
    have d1:wr.cell? ⟨w.heap.size+1,1,none⟩=some (.int .u8 0):=by rw [aa j.out.2];rfl
    have d2:wr.cell? ⟨w.heap.size+1,2,none⟩=some (.slice none 0 0):=by rw [aa j.out.2];rfl
    have g0:=ab j.2 0;have g1:=ab j.2 1;have g2:=ab j.2 2;go_wp2_with fail
    refine bodyPost_ret (v:= .agg #[.int .u8 m.toNat, .int .u8 o.toNat, .slice l a.length b]) (by rw [cI rfl];go_simp) rfl ?_;refine ⟨_,rfl,⟨_,rfl,?_⟩,((D.out.setCell (by simp) _).setCell (by simp) _).setCell (by simp) _⟩;refine ((z.out.done (by omega)).kept (λq hq _=>?_)).mono (by have:=A.out;omega) (by simp);have hz:=A.out;rw [a0g _ _ _ _ (by simp;omega),a0g _ _ _ _ (by simp;omega),a0g _ _ _ _ (by simp;omega)]
end
section
open Go.RowKit Go.Maps Go.Shelf
theorem vp (u v:a0k) (l m:List ci) (w:a0h) (y:az 0 w.heap.size w u l) (z:az 0 w.heap.size w v m) (hl:l.length<=1000000) (hm:m.length<=1000000):
 a0s a0d 105 #[u,v] w λe w'=>e= .returned (.bool (decide (l=m)))/\a0n w.heap.size w w':=by
 have G:=a0b y;have H:=a0b z;obtain ⟨a,c,rfl,_⟩:=y;obtain ⟨O,T,rfl,_⟩:=z;by_cases hlm:l.length=m.length
 · have M:((l.length:Int)!=(m.length:Int))=false:=by simp;omega
   have a2:m.length<=l.length:=by omega
   have a1:l.length<=m.length:=by omega
   have N:=a0b hlm;clear hlm;go_enter Tryz.func105,Tryz.ntmps105;go_wp2_with fail
   go_loopw [5,13] (λ_a i wr=>∃k:Nat,k<=l.length/\i= .int .i64 k/\Hid (l.take k=m.take k)/\a0n w.heap.size w wr) (λ_ i _=>l.length - (intOf i).toNat)
   case atStart=>exact ⟨0,a0C _,rfl,rfl,a0e _ _⟩
   case round=>
    obtain ⟨k,hk,rfl,r,d⟩:=hrel;by_cases hlt:k<l.length
    · have x:k<m.length:=by omega
      obtain ⟨b,a3,U,f,_,X,I,c1⟩:=(az.kept G.out (bd d (a0a _))).sub k hlt;cases f;obtain ⟨R,a4,V,f,_,Y,J,L⟩:=(az.kept H.out (bd d (a0a _))).sub k x;cases f;have a0:(k:Int)<(m.length:Int):=by omega
      have s:Hid (l.take (k+1)=l.take k++[l[k]]/\m.take (k+1)=m.take k++[m[k]]):=⟨a0j hlt,a0j x⟩;have E:Hid (l=m->l[k]=m[k]):=λh=>by subst h;rfl
      generalize l[k]=p at *;generalize m[k]=q at *;obtain ⟨g,A⟩:=p;obtain ⟨j,C⟩:=q;dsimp only at I c1 J L;have Z:b<wr.heap.size:=by have:=d.size;omega
      by_cases hpq:g=j/\A=C
      · obtain ⟨rfl,rfl⟩:=hpq;go_wp2_with fail
        go_region;go_wp2_with fail
        go_roundw
        case rel=>exact ⟨k+1,by omega,by go_num,by unfold Hid;rw [s.out.1,s.out.2,r.out],d.drew⟩
        case measure=>simp [intOf];omega
      · have o:Hid (l≠m):=λh=>hpq (by injection E.out h with h1 t;exact ⟨h1,t⟩);by_cases h1:g=j
        · have t:¬A=C:=λh=>hpq ⟨h1,h⟩;subst h1;clear hpq;go_wp2_with fail
          go_region;go_wp2_with fail
          go_ret;exact ⟨ap (by symm;exact decide_eq_false o.out),d.drew⟩
        · have W:¬(g.toNat=j.toNat):=λe=>h1 (UInt8.toNat_inj.1 e);clear hpq;go_wp2_with fail
          go_region;go_wp2_with fail
          go_ret;exact ⟨ap (by symm;exact decide_eq_false o.out),d.drew⟩
    · have D:Hid (l=m):=by have:=r.out;rw [a0o (by omega),a0o (by omega)] at this;exact this
      go_wp2_with fail
      go_ret;exact ⟨ap (by symm;exact decide_eq_true D.out),d⟩
 · have M:((l.length:Int)!=(m.length:Int))=true:=by simp;omega
   go_enter Tryz.func105,Tryz.ntmps105;go_wp2_with fail
   go_ret;exact ⟨ap (by symm;exact decide_eq_false (λh=>hlm (by rw [h]))),a0e _ _⟩
theorem uG (f g:af) (d u:a0k) (w:a0h) (r:az 0 w.heap.size w d f.subs) (s:az 0 w.heap.size w u g.subs) (v:f.subs.length<=1000000) (x:g.subs.length<=1000000):
 a0s a0d 104 #[.agg #[S f.tag,S f.ind,S f.data,d], .agg #[S g.tag,S g.ind,S g.data,u]] w λe w'=>e= .returned (.bool (decide (f=g)))/\a0n w.heap.size w w':=by
 obtain ⟨t1,k,p,l⟩:=f;obtain ⟨t2,y,z,m⟩:=g;dsimp only at r s v x ⊢;have D:=a0b r;have E:=a0b s;obtain ⟨a,c,rfl,_⟩:=r;obtain ⟨G,H,rfl,_⟩:=s;have b:∀o i,a0n w.heap.size w ((w.alloc o).alloc i):=λo i=>((a0e _ w).alloc (a0a _) o).alloc (by simp) i;by_cases e1:t1=t2
 · subst e1;by_cases e2:k=y
   · subst e2;by_cases e3:p=z
     · subst e3;have A:=a0b (λo i=>vp (.slice a l.length c) (.slice G m.length H) l m ((w.alloc o).alloc i) ((D.kept (bd (b o i) (a0a _))).mono (a0a _) (b o i).size) ((E.kept (bd (b o i) (a0a _))).mono (a0a _) (b o i).size) v x);have C:Hid (decide ((⟨t1,k,p,l⟩:af)=⟨t1,k,p,m⟩)=decide (l=m)):=by unfold Hid;simp
       have t:=a0b b;clear b;generalize decide (l=m)=q at *;go_enter Tryz.func104,Tryz.ntmps104;go_wp2_with (go_at_call 105;((with_reducible refine a0m (A.out _ _) ?_);rintro e w' ⟨rfl,I⟩))
       all_goals go_ret
       all_goals exact ⟨ap C.symm,(t _ _).trans (I.mono (t _ _).size)⟩
     · have j:(p==z)=false:=by simpa using e3
       clear e3;go_enter Tryz.func104,Tryz.ntmps104;go_wp2_with fail
       go_ret;exact ⟨ap (by symm;exact decide_eq_false (λh=>by injection h with _ _ h;rw [h] at j;simp at j)),b _ _⟩
   · have j:(k==y)=false:=by simpa using e2
     clear e2;go_enter Tryz.func104,Tryz.ntmps104;go_wp2_with fail
     go_ret;exact ⟨ap (by symm;exact decide_eq_false (λh=>by injection h with _ h;rw [h] at j;simp at j)),b _ _⟩
 · have j:(t1==t2)=false:=by simpa using e1
   clear e1;go_enter Tryz.func104,Tryz.ntmps104;go_wp2_with fail
   go_ret;exact ⟨ap (by symm;exact decide_eq_false (λh=>by injection h with h;rw [h] at j;simp at j)),b _ _⟩
theorem sS (u v:a0k) (l m:List af) (w:a0h) (J:ai 0 w.heap.size w u l) (L:ai 0 w.heap.size w v m) (hl:l.length<=1000000) (hm:m.length<=1000000) (X:∀f∈l,f.subs.length<=1000000) (Y:∀f∈m,f.subs.length<=1000000):
 a0s a0d 103 #[u,v, .func (.func 104) #[] #[]] w λe w'=>e= .returned (.bool (decide (l=m)))/\a0n w.heap.size w w':=by
 have HU:=a0b J;have HV:=a0b L;have a0:=a0b X;have a1:=a0b Y;obtain ⟨a,c,rfl⟩:=J.shape;obtain ⟨a',c',rfl⟩:=L.shape;clear J L X Y;by_cases hlm:l.length=m.length
 · have a2:((l.length:Int)!=(m.length:Int))=false:=by simp;omega
   have ax:m.length<=l.length:=by omega
   have av:l.length<=m.length:=by omega
   have a3:=a0b hlm;clear hlm;go_enter Tryz.func103,Tryz.ntmps103;go_wp2_with fail
   go_loopw [7,8,9,17] (λ_a _b _c i wr=>∃k:Nat,k<=l.length/\i= .int .i64 k/\Hid (l.take k=m.take k)/\a0n w.heap.size w wr) (λ_ _ _ i _=>l.length - (intOf i).toNat)
   case atStart=>exact ⟨0,a0C _,rfl,rfl,a0e _ _⟩
   case round=>
    obtain ⟨k,hk,rfl,M,j⟩:=hrel;by_cases hlt:k<l.length
    · have G:k<m.length:=by omega
      obtain ⟨b,ay,a4,d,E,_,al,c0,c1,c2,c3,H⟩:=(ai.kept HU.out (bd j (a0a _))).field k hlt;cases E;obtain ⟨t,y,a5,A,E,_,ao,R,T,U,V,I⟩:=(ai.kept HV.out (bd j (a0a _))).field k G;cases E;have au:(k:Int)<(m.length:Int):=by omega
      have N:Hid (l.take (k+1)=l.take k++[l[k]]/\m.take (k+1)=m.take k++[m[k]]):=⟨a0j hlt,a0j G⟩;have HQ:Hid (l=m->l[k]=m[k]):=λh=>by subst h;rfl
      have D:=j.size;have a6:∀o,(wr.alloc o).cell? ⟨t,y+k * 4,none⟩=some (S m[k].tag):=λo=>by rw [aR _ _ _ _ (by omega)];exact R
      have a7:∀o,(wr.alloc o).cell? ⟨t,y+k * 4+1,none⟩=some (S m[k].ind):=λo=>by rw [aR _ _ _ _ (by omega)];exact T
      have a8:∀o,(wr.alloc o).cell? ⟨t,y+k * 4+2,none⟩=some (S m[k].data):=λo=>by rw [aR _ _ _ _ (by omega)];exact U
      have a9:∀o,(wr.alloc o).cell? ⟨t,y+k * 4+3,none⟩=some A:=λo=>by rw [aR _ _ _ _ (by omega)];exact V
      have s:Hid (∀o g,a0n w.heap.size w ((wr.alloc o).alloc g)):=λo g=>(j.alloc D o).alloc (by simp;omega) g
      have r:Hid (∀W,a0n wr.heap.size wr W->a0s a0d 104 #[.agg #[S l[k].tag,S l[k].ind,S l[k].data,d], .agg #[S m[k].tag,S m[k].ind,S m[k].data,A]] W λe w'=>e= .returned (.bool (decide (l[k]=m[k])))/\a0n W.heap.size W w'):=λW x=>
       uG l[k] m[k] d A W (((H.mono (a0a _) D).kept (bd x (a0a _))).mono (a0a _) x.size) (((I.mono (a0a _) D).kept (bd x (a0a _))).mono (a0a _) x.size) (a0 _ (a0w hlt)) (a1 _ (a0w G))
      have O:Hid (∀o g,a0n wr.heap.size wr ((wr.alloc o).alloc g)):=λo g=>((a0e _ wr).alloc (a0a _) o).alloc (by simp) g;obtain ⟨da,dc,rfl,_⟩:=id H;obtain ⟨ac,ad,rfl,_⟩:=id I;clear H I R T U V;generalize hp:l[k]=p at *;generalize hq:m[k]=q at *;clear hp hq;obtain ⟨p1,p2,p3,p4⟩:=p;obtain ⟨q1,q2,q3,q4⟩:=q;dsimp only at *;by_cases hpq:(⟨p1,p2,p3,p4⟩:af)=⟨q1,q2,q3,q4⟩
      · rw [decide_eq_true hpq] at r;have z:=a0b hpq;clear hpq;go_wp2_with (go_at_call 104;((with_reducible refine a0m (r.out _ (O.out _ _)) ?_);rintro e w' ⟨rfl,C⟩))
        go_roundw
        case rel=>exact ⟨k+1,by omega,by go_num,by unfold Hid;rw [N.out.1,N.out.2,M.out,z.out],btr (s.out _ _) C (s.out _ _).size⟩
        case measure=>simp [intOf];omega
      · rw [decide_eq_false hpq] at r;have z:=a0b hpq;clear hpq;go_wp2_with (go_at_call 104;((with_reducible refine a0m (r.out _ (O.out _ _)) ?_);rintro e w' ⟨rfl,C⟩))
        go_ret;exact ⟨ap (by symm;exact decide_eq_false (λh=>z (HQ h))),btr (s _ _) C (s _ _).size⟩
    · have Z:Hid (l=m):=by have:=M.out;rw [a0o (by omega),a0o (by omega)] at this;exact this
      go_wp2_with fail
      go_ret;exact ⟨ap (by symm;exact decide_eq_true Z.out),j⟩
 · have a2:((l.length:Int)!=(m.length:Int))=true:=by simp;omega
   go_enter Tryz.func103,Tryz.ntmps103;go_wp2_with fail
   go_ret;exact ⟨ap (by symm;exact decide_eq_false (λh=>hlm (by rw [h]))),a0e _ _⟩
theorem yr (u v:a0k) (r s:aB) (w:a0h) (O:d7 0 w.heap.size w u r) (R:d7 0 w.heap.size w v s) (M:r.fields.length<=1000000) (N:s.fields.length<=1000000) (E:∀f∈r.fields,f.subs.length<=1000000) (G:∀f∈s.fields,f.subs.length<=1000000):
 a0s a0d 59 #[u,v] w λe w'=>e= .returned (.bool (decide (r=s)))/\a0n w.heap.size w w':=by
 obtain ⟨j,m,k⟩:=r;obtain ⟨z,p,l⟩:=s;obtain ⟨x,rfl,g⟩:=O;obtain ⟨y,rfl,i⟩:=R;unfold fq;dsimp only at *;have d:∀o b,a0n w.heap.size w ((w.alloc o).alloc b):=λo b=>((a0e _ w).alloc (a0a _) o).alloc (by simp) b;by_cases e1:j=z
 · subst e1;by_cases e2:m=p
   · subst e2;have H:=a0b (λo b=>sS x y k l ((w.alloc o).alloc b) ((g.kept (bd (d o b) (a0a _))).mono (a0a _) (d o b).size) ((i.kept (bd (d o b) (a0a _))).mono (a0a _) (d o b).size) M N E G);have I:Hid (decide ((⟨j,m,k⟩:aB)=⟨j,m,l⟩)=decide (k=l)):=by unfold Hid;simp
     obtain ⟨a,c,rfl⟩:=g.shape;obtain ⟨C,D,rfl⟩:=i.shape;have A:=a0b d;clear d g i E G;generalize decide (k=l)=q at *;go_enter Tryz.func59,Tryz.ntmps59;go_wp2_with (go_at_call 103;((with_reducible refine a0m (H.out _ _) ?_);rintro e w' ⟨rfl,L⟩))
     all_goals go_ret
     all_goals exact ⟨ap I.symm,(A _ _).trans (L.mono (A _ _).size)⟩
   · have J:¬(m.toNat=p.toNat):=λe=>e2 (UInt8.toNat_inj.1 e);have t:Hid (decide ((⟨j,m,k⟩:aB)=⟨j,p,l⟩)=false):=decide_eq_false (λh=>e2 (by injection h));obtain ⟨a,c,rfl⟩:=g.shape;obtain ⟨C,D,rfl⟩:=i.shape;clear e2 g i;go_enter Tryz.func59,Tryz.ntmps59;go_wp2_with fail
     go_ret;exact ⟨ap t.symm,d _ _⟩
 · have J:¬(j.toNat=z.toNat):=λe=>e1 (UInt8.toNat_inj.1 e);have t:Hid (decide ((⟨j,m,k⟩:aB)=⟨z,p,l⟩)=false):=decide_eq_false (λh=>e1 (by injection h));obtain ⟨a,c,rfl⟩:=g.shape;obtain ⟨C,D,rfl⟩:=i.shape;clear e1 g i;go_enter Tryz.func59,Tryz.ntmps59;go_wp2_with fail
   go_ret;exact ⟨ap t.symm,d _ _⟩
end
section
open Go.RowKit Go.Maps Go.Shelf
theorem xe (w:a0h):a0s a0d 32 #[] w λe w'=>e= .returned (.pointer (some ⟨w.heap.size,0,none⟩))/\w'=w.alloc (.cells #[.map none, .map none, .map none, .pointer none] 117):=by
 go_enter Tryz.func32,Tryz.ntmps32;go_wp2;go_ret;exact ⟨rfl,rfl⟩
theorem oY (b n:Nat) (w:a0h) (a:w.cell? ⟨b,0,none⟩=some (.map (some n))):a0s a0d 57 #[.pointer (some ⟨b,0,none⟩)] w λe w'=>e= .returned (.tuple #[])/\w=w':=by
 have c:∀(w:a0h) (r:Option Nat),(binOp .eql 113 (.map r) (.map none)).run a0d w= .ok (.bool r.isNone) w:=λw r=>run_eql_map_nil w 113 _ _ r Tryz.underlying113;go_enter Tryz.func57,Tryz.ntmps57;go_wp2;go_end0
 exact ⟨rfl,rfl⟩
theorem oZ (b:Nat) (v:a0k) (w:a0h) (h:w.heap[b]? =some (.cells #[.map none, .map none, .map none,v] 117 (0,0))):a0s a0d 57 #[.pointer (some ⟨b,0,none⟩)] w λe w'=>e= .returned (.tuple #[])/\
 w'=((((((w.alloc (.map #[] 0)).alloc (.map #[] 0)).alloc (.map #[] 0)).setCell ⟨b,0,none⟩ (.map (some w.heap.size))).setCell ⟨b,1,none⟩ (.map (some (w.heap.size+1)))).setCell ⟨b,2,none⟩ (.map (some (w.heap.size+2)))):=by
 have d:w.cell? ⟨b,0,none⟩=some (.map none):=by rw [aa h];rfl
 have c1:w.cell? ⟨b,1,none⟩=some (.map none):=by rw [aa h];rfl
 have c2:w.cell? ⟨b,2,none⟩=some (.map none):=by rw [aa h];rfl
 have j:=ab h 0;have k:=ab h 1;have l:=ab h 2;have c:=ae h;have a:(((w.alloc (.map #[] 0)).alloc (.map #[] 0)).alloc (.map #[] 0)).heap[b]? =some (.cells #[.map none, .map none, .map none,v] 117 (0,0)):=by rw [a0f _ _ _ (by simp;omega),a0f _ _ _ (by simp;omega),a0f _ _ _ c];exact h
 have f:(((w.alloc (.map #[] 0)).alloc (.map #[] 0)).alloc (.map #[] 0)).cell? ⟨b,0,none⟩=some (.map none):=by rw [aa a];rfl
 have g:(((w.alloc (.map #[] 0)).alloc (.map #[] 0)).alloc (.map #[] 0)).cell? ⟨b,1,none⟩=some (.map none):=by rw [aa a];rfl
 have i:(((w.alloc (.map #[] 0)).alloc (.map #[] 0)).alloc (.map #[] 0)).cell? ⟨b,2,none⟩=some (.map none):=by rw [aa a];rfl
 have m:=ab a 0;have o:=ab a 1;have p:=ab a 2;clear a;clear h;have s:∀(w:a0h) (r:Option Nat),(binOp .eql 113 (.map r) (.map none)).run a0d w= .ok (.bool r.isNone) w:=λw r=>run_eql_map_nil w 113 _ _ r Tryz.underlying113;have q:= @run_makeMap a0d;go_enter Tryz.func57,Tryz.ntmps57;go_wp2;go_end0
 exact ⟨rfl,rfl⟩
end
section
open Go.RowKit Go.Maps Go.Shelf
section
variable {P:a0N} {kt:a0E} {K:Type} [DecidableEq K] {B:dZ P kt K}
def cj (B:dZ P kt K) (w:a0h) (mv:Option Nat) (l:List (K×a0k)):Prop:=match mv with
 |none=>l=[]
 |some b=>ak B w b l
theorem cj.block {w w':a0h} {mv:Option Nat} {l:List (K×a0k)} (h:cj B w mv l) (a:∀b,mv=some b->w'.heap[b]? =w.heap[b]?):cj B w' mv l:=by
 cases mv with
 |none=>exact h
 |some b=>exact ak.block h (a b rfl)
theorem cj.look_ok {w:a0h} {mv:Option Nat} {l:List (K×a0k)} (h:cj B w mv l) {t e:a0E} (c:P.underlying t=some (.map kt e)) {z:a0k} (d:∀u:a0h,(zeroValue e).run P u= .ok z u) (k:K) (a:B.ok k):
 (a0x t (.map mv) (B.kv k) true).run P w= .ok (.tuple #[(lookL l k).getD z, .bool (lookL l k).isSome]) w:=by
 cases mv with
 |none=> have h:l=[]:=h;subst h;rw [Maps.look_nil true B.keyed c (d w) (B.key k a)];rfl
 |some b=>exact ak.look_ok h c (d w) k a
theorem cj.look {w:a0h} {mv:Option Nat} {l:List (K×a0k)} (h:cj B w mv l) {t e:a0E} (c:P.underlying t=some (.map kt e)) {z:a0k} (d:∀u:a0h,(zeroValue e).run P u= .ok z u) (k:K) (a:B.ok k):
 (a0x t (.map mv) (B.kv k) false).run P w= .ok ((lookL l k).getD z) w:=by
 cases mv with
 |none=> have h:l=[]:=h;subst h;rw [Maps.look_nil false B.keyed c (d w) (B.key k a)];rfl
 |some b=>exact ak.look h c (d w) k a
theorem cj.len {w:a0h} {mv:Option Nat} {l:List (K×a0k)} (h:cj B w mv l) {t e:a0E} (c:P.underlying t=some (.map kt e)) (a:a0E):
 (Builtin.len_ #[t] a #[.map mv]).run P w= .ok (.int .i64 l.length) w:=by
 cases mv with
 |none=> have h:l=[]:=h;subst h;exact Maps.len_nil c a
 |some b=> obtain ⟨g,d,f,_⟩:=h;have:=d.len c a;rw [ak.size f] at this;exact this
theorem cj.lt {w:a0h} {b:Nat} {l:List (K×a0k)} (h:cj B w (some b) l):b<w.heap.size:=ak.lt h
theorem cj.ok {w:a0h} {mv:Option Nat} {l:List (K×a0k)} (h:cj B w mv l):∀p∈l,B.ok p.1:=by
 cases mv with
 |none=> have h:l=[]:=h;subst h;intro p a;cases a
 |some b=>exact ak.ok h
end
theorem eW {K V:Type} [DecidableEq K] (l:List (K×V)) (f:V->a0k) (k:K):lookL (l.map λp=>(p.1,f p.2)) k=(findK l k).map f:=by
 induction l with
 |nil=>rfl
 |cons p l ih=>
  unfold findK at ih ⊢;rw [a0L,cZ,List.find?_cons];by_cases h:p.1=k
  · rw [if_pos h];simp [h]
  · rw [if_neg h,ih];simp [h]
theorem zu {K V:Type} [DecidableEq K] (l:List (K×V)) (f:K->V->a0k) (k:K):cB (l.map λp=>(p.1,f p.1 p.2)) k=(l.filter λp=> !decide (p.1=k)).map λp=>(p.1,f p.1 p.2):=by
 unfold cB;rw [List.filter_map];rfl
theorem iG {K V:Type} [DecidableEq K] {lt:K->K->Bool} (T:Tot lt) {l:List (K×V)} (a:aw lt l) (f:K->V->a0k) (k:K) (v:V):
 (putL (l.map λp=>(p.1,f p.1 p.2)) k (f k v)).Perm ((insL lt l k v).map λp=>(p.1,f p.1 p.2)):=by
 unfold putL;rw [zu];have:=(xo T a k v).map (λp=>(p.1,f p.1 p.2));rw [List.map_append] at this;exact this
def jT (k:RK) (n:Int) (r:aB) (x:a0k):a0k:= .agg #[.int .i64 k.1, .int .i64 k.2, .int .i64 n, .int .u8 r.kind.toNat, .int .u8 r.level.toNat,x]
abbrev VX:=(Int×aB)×a0k
def iz (k:RK) (p:VX):a0k:=jT k p.1.1 p.1.2 p.2
def fR (p:Int×Bool):a0k:= .agg #[.int .i64 p.1, .bool p.2]
theorem tX {K V W:Type} [DecidableEq K] (lt:K->K->Bool) (g:V->W) (l:List (K×V)) (k:K) (v:V):(insL lt l k v).map (λp=>(p.1,g p.2))=insL lt (l.map λp=>(p.1,g p.2)) k (g v):=by
 induction l with
 |nil=>rfl
 |cons p l ih=>
  unfold insL;rw [a0L];dsimp only;by_cases h:lt p.1 k=true
  · rw [if_pos h,if_pos h,a0L,ih]
  · rw [if_neg h,if_neg h];by_cases h2:p.1=k
    · rw [if_pos h2,if_pos h2];rfl
    · rw [if_neg h2,if_neg h2];rfl
def dF (F:Nat->Prop) (w:a0h) (p:RK×VX):Prop:=∃lo a,ai lo a w p.2.2 p.2.1.2.fields/\a<=w.heap.size/\∀k,lo<=k->k<a->F k
theorem dF.step {F:Nat->Prop} {w w':a0h} {p:RK×VX} (h:dF F w p) (f:∀k,F k->w'.heap[k]? =w.heap[k]?) (i:w.heap.size<=w'.heap.size):dF F w' p:=by
 obtain ⟨lo,e,d,g,c⟩:=h;exact ⟨lo,e,d.kept (λk a b=>f k (c k a b)),by omega,c⟩
theorem dF.wide {F G:Nat->Prop} {w:a0h} {p:RK×VX} (h:dF F w p) (f:∀k,F k->G k):dF G w p:=by
 obtain ⟨lo,g,c,d,e⟩:=h;exact ⟨lo,g,c,d,λk a b=>f k (e k a b)⟩
def iX (F:Nat->Prop) (w:a0h) (mv:Option Nat) (a:VL):Prop:=
 ∃ps:List (RK×VX),ps.map (λp=>(p.1,p.2.1))=a/\cj recB w mv (ps.map λp=>(p.1,iz p.1 p.2))/\∀p∈ps,dF F w p
structure AB (w:a0h) (b:Nat) (L:VL) (set:List Nat):Prop where
 ex:∃l,ak recB w b l/\∀k,lookL l k=(atC L k).map λi=>recK (keyC L (set.getD i 0))
structure yg (F:Nat->Prop) (w:a0h) (b:Nat) (L:VL) (set:List Nat):Prop where
 ex:∃l,ak recB w b l/\(∀k,(lookL l k).isSome=true↔∃t,t<L.length/\set.getD t 0=t/\keyC L t=k)/\
  ∀t,t<L.length->set.getD t 0=t->∃v,lookL l (keyC L t)=some v/\∃g n cap,v= .slice (some ⟨g,0,none⟩) n cap/\F g/\d9 0 w.heap.size w v (aU L set t)
def cU (F:Nat->Prop) (w:a0h) (t:Nat) (L:VL) (set:List Nat):Prop:=
 ∃b a,w.heap[t]? =some (.cells #[.map (some b), .map (some a)] 95 (0,0))/\F t/\F b/\F a/\AB w b L set/\yg F w a L set
def zI (F:Nat->Prop) (w:a0h) (a:a0k) (d:ar):Prop:=a= .pointer none∨∃t,a= .pointer (some ⟨t,0,none⟩)/\cU F w t (thereC d) (setsC d)
structure aY (d:ar):Prop where
 ok:d.Ok
 vlen:d.vs.length<=5000
 dlen:d.ds.length<=5000
 plen:d.ps.length<=5000
 right:∀p∈d.vs,wrongR p.2.2=0
 vnum:∀p∈d.vs,i64B p.2.1
 dnum:∀p∈d.ds,i64B p.2
 pnum:∀p∈d.ps,i64B p.2.1
 vkey:∀p∈d.vs,rkOk p.1
 dkey:∀p∈d.ds,rkOk p.1
 pkey:∀p∈d.ps,pkOk p.1
def restF (F:Nat->Prop) (c:Nat) (a b d:Option Nat) (k:Nat):Prop:=F k/\k≠c/\a≠some k/\b≠some k/\d≠some k
structure dG (F:Nat->Prop) (w:a0h) (c:Nat) (m1 m2 m3:Option Nat) (kn:a0k) (d:ar):Prop where
 blk:w.heap[c]? =some (.cells #[.map m1, .map m2, .map m3,kn] 117 (0,0))
 vs:iX (restF F c m1 m2 m3) w m1 d.vs
 ds:cj recB w m2 (d.ds.map λp=>(p.1, .int .i64 p.2))
 ps:cj pairB w m3 (d.ps.map λp=>(p.1,fR p.2))
 kn:zI (restF F c m1 m2 m3) w kn d
 fc:F c
 f1:∀m,m1=some m->F m
 f2:∀m,m2=some m->F m
 f3:∀m,m3=some m->F m
 one:(m1=none/\m2=none/\m3=none)∨∃a b e,m1=some a/\m2=some b/\m3=some e/\a≠b/\a≠e/\b≠e
 lt:∀k,F k->k<w.heap.size
 ok:aY d
def bz (F:Nat->Prop) (w:a0h) (c:Nat) (d:ar):Prop:=∃b e f a,dG F w c b e f a d
theorem iX.step {F:Nat->Prop} {w w':a0h} {mv:Option Nat} {a:VL} (h:iX F w mv a) (g:∀b,mv=some b->w'.heap[b]? =w.heap[b]?) (f:∀k,F k->w'.heap[k]? =w.heap[k]?) (j:w.heap.size<=w'.heap.size):iX F w' mv a:=by
 obtain ⟨ps,c,d,e⟩:=h;exact ⟨ps,c,d.block g,λp i=>(e p i).step f j⟩
theorem iX.wide {F G:Nat->Prop} {w:a0h} {mv:Option Nat} {a:VL} (h:iX F w mv a) (e:∀k,F k->G k):iX G w mv a:=by
 obtain ⟨ps,b,c,d⟩:=h;exact ⟨ps,b,c,λp f=>(d p f).wide e⟩
theorem cU.step {F:Nat->Prop} {w w':a0h} {t:Nat} {L:VL} {set:List Nat} (h:cU F w t L set) (f:∀k,F k->w'.heap[k]? =w.heap[k]?) (W:w.heap.size<=w'.heap.size):cU F w' t L set:=by
 obtain ⟨s,r,z,m,o,p,⟨l,A,C⟩,⟨O,D,E,G⟩⟩:=h;refine ⟨s,r,(f t m).trans z,m,o,p,⟨l,A.block (f s o),C⟩,⟨O,D.block (f r p),E,λt J T=>?_⟩⟩;obtain ⟨v,M,g,n,u,i,q,I⟩:=G t J T;refine ⟨v,M,g,n,u,i,q,?_⟩;subst i;obtain ⟨a,c,d,h⟩:=I;refine ⟨a,c,d,λH=>?_⟩;obtain ⟨b,R,e,U,V,y⟩:=h H;injection d with d _ _
 rw [<- d] at e;injection e with e
 injection e with hb ho i
 subst hb;refine ⟨g,R,by rw [<- d,ho],a0C _,by omega,λj x N=>?_⟩;rw [World.cell?_of_block (w:=w) (f g q)];exact y j x N
theorem cU.wide {F G:Nat->Prop} {w:a0h} {t:Nat} {L:VL} {set:List Nat} (h:cU F w t L set) (a:∀k,F k->G k):cU G w t L set:=by
 obtain ⟨y,x,c,d,e,f,i,⟨u,j,l,m⟩⟩:=h;refine ⟨y,x,c,a _ d,a _ e,a _ f,i,⟨u,j,l,λt r z=>?_⟩⟩;obtain ⟨v,s,g,n,b,q,o,p⟩:=m t r z;exact ⟨v,s,g,n,b,q,a _ o,p⟩
theorem dG.step {F:Nat->Prop} {w w':a0h} {c:Nat} {l m o:Option Nat} {j:a0k} {d:ar} (h:dG F w c l m o j d) (a:∀k,F k->w'.heap[k]? =w.heap[k]?) (i:w.heap.size<=w'.heap.size):dG F w' c l m o j d:=by
 refine ⟨(a c h.fc).trans h.blk,h.vs.step (λb e=>a b (h.f1 b e)) (λk g=>a k g.1) i,h.ds.block (λb e=>a b (h.f2 b e)),h.ps.block (λb e=>a b (h.f3 b e)),?_,h.fc,h.f1,h.f2,h.f3,h.one,λk q=>Nat.lt_of_lt_of_le (h.lt k q) i,h.ok⟩;rcases h.kn with f|⟨t,f,p⟩
 · exact .inl f
 · exact .inr ⟨t,f,p.step (λk g=>a k g.1) i⟩
theorem bz.step {F:Nat->Prop} {w w':a0h} {c:Nat} {d:ar} (h:bz F w c d) (a:∀k,F k->w'.heap[k]? =w.heap[k]?) (b:w.heap.size<=w'.heap.size):bz F w' c d:=by
 obtain ⟨f,g,i,e,h⟩:=h;exact ⟨f,g,i,e,h.step a b⟩
theorem dG.below {F:Nat->Prop} {w w':a0h} {c:Nat} {e f g:Option Nat} {b:a0k} {d:ar} (h:dG F w c e f g b d) (a:a0n w.heap.size w w'):dG F w' c e f g b d:=
 h.step (λk i=>a.block k (h.lt k i)) a.size
theorem bz.below {F:Nat->Prop} {w w':a0h} {c:Nat} {d:ar} (h:bz F w c d) (a:a0n w.heap.size w w'):bz F w' c d:=by
 obtain ⟨e,f,g,b,h⟩:=h;exact ⟨e,f,g,b,h.below a⟩
theorem kf:aY cat0:=by
 refine ⟨⟨.nil, .nil, .nil,?_⟩,?_,?_,?_,?_,?_,?_,?_,?_,?_,?_⟩<;>simp [cat0]
theorem tQ (w:a0h):bz (λk=>k=w.heap.size) (w.alloc (.cells #[.map none, .map none, .map none, .pointer none] 117)) w.heap.size cat0:=by
 refine ⟨none,none,none, .pointer none,a0c w _,⟨[],rfl,rfl,?_⟩,rfl,rfl, .inl rfl,rfl,?_,?_,?_, .inl ⟨rfl,rfl,rfl⟩,λk b=>by rw [b];simp,kf⟩
 · intro p c;cases c
 · intro m a;cases a
 · intro m a;cases a
 · intro m a;cases a
theorem ak.empty {P:a0N} {kt:a0E} {K:Type} [DecidableEq K] {B:dZ P kt K} {w:a0h} {b:Nat} (h:w.heap[b]? =some (.map #[] 0)):ak B w b []:=by
 obtain ⟨d,⟨e,c,a,f⟩,g⟩:=ak.made (B:=B) w;rw [a0c] at a;exact ⟨d,⟨e,c,h.trans a,f⟩,g⟩
theorem aj {w:a0h} {b c:Nat} {d:Array a0k} {t:a0E} {P:a0N} {kt:a0E} {K:Type} [DecidableEq K] {B:dZ P kt K} {l:List (K×a0k)} (f:ak B w b l) (e:w.heap[c]? =some (.cells d t (0,0))):b≠c:=by
 rintro rfl;obtain ⟨g,⟨h,k,a,_⟩,_⟩:=f;rw [e] at a;cases a
theorem gw {F:Nat->Prop} {w:a0h} {c:Nat} {m1 m2 m3:Option Nat} {u:a0k} {d:ar} (h:dG F w c m1 m2 m3 u d):
 a0s a0d 57 #[.pointer (some ⟨c,0,none⟩)] w λe w'=>e= .returned (.tuple #[])/\∃y a b z,dG y w' c (some a) (some b) (some z) u d/\ag F w y w':=by
 rcases h.one with ⟨rfl,rfl,rfl⟩|⟨a,b,e,rfl,rfl,rfl,a2,a3,a4⟩
 · refine (oZ c u w h.blk).mono ?_;rintro e w' ⟨rfl,rfl⟩
   · obtain ⟨i,o⟩:∃i,((w.alloc (.map #[] 0)).alloc (.map #[] 0)).alloc (.map #[] 0)=i:=⟨_,rfl⟩;have R:=h.lt c h.fc;have a1:i.heap.size=w.heap.size+3:=by rw [<- o];simp
     have C:∀k,k<w.heap.size->i.heap[k]? =w.heap[k]? :=λk f=>by rw [<- o,a0f _ _ _ (by simp;omega),a0f _ _ _ (by simp;omega),a0f _ _ _ f]
     have L:i.heap[w.heap.size]? =some (.map #[] 0):=by rw [<- o,a0f _ _ _ (by simp;omega),a0f _ _ _ (by simp)];exact a0c w _
     have M:i.heap[w.heap.size+1]? =some (.map #[] 0):=by rw [<- o,a0f _ _ _ (by simp)];have:=a0c (w.alloc (.map #[] 0)) (.map #[] 0);rwa [a0l] at this
     have O:i.heap[w.heap.size+2]? =some (.map #[] 0):=by rw [<- o];have:=a0c ((w.alloc (.map #[] 0)).alloc (.map #[] 0)) (.map #[] 0);rwa [a0l,a0l] at this
     rw [o];obtain ⟨l,q⟩:∃l,((i.setCell ⟨c,0,none⟩ (.map (some w.heap.size))).setCell ⟨c,1,none⟩ (.map (some (w.heap.size+1)))).setCell ⟨c,2,none⟩ (.map (some (w.heap.size+2)))=l:=⟨_,rfl⟩;have a5:l.heap.size=w.heap.size+3:=by rw [<- q];simp [a1]
     have s:∀k,k≠c->l.heap[k]? =i.heap[k]? :=λk f=>by rw [<- q,a0g _ _ _ _ f,a0g _ _ _ _ f,a0g _ _ _ _ f]
     have T:l.heap[c]? =some (.cells #[.map (some w.heap.size), .map (some (w.heap.size+1)), .map (some (w.heap.size+2)),u] 117 (0,0)):=by rw [<- q];have D:=an ((C c R).trans h.blk) 0 (.map (some w.heap.size));have E:=an D 1 (.map (some (w.heap.size+1)));have G:=an E 2 (.map (some (w.heap.size+2)));exact G
     rw [q];have x:∀j,w.heap.size+j≠c:=λj=>by omega
     have H:l.heap[w.heap.size]? =some (.map #[] 0):=(s _ (x 0)).trans L;have I:l.heap[w.heap.size+1]? =some (.map #[] 0):=(s _ (x 1)).trans M;have J:l.heap[w.heap.size+2]? =some (.map #[] 0):=(s _ (x 2)).trans O;have A:∀k,k<w.heap.size->k≠c->l.heap[k]? =w.heap[k]? :=λk f V=>(s k V).trans (C k f);obtain ⟨ps,q1,q2,q3⟩:=h.vs;have a0:ps=[]:=by simpa using (show ps.map (λp=>(p.1,iz p.1 p.2))=[] from q2)
     subst a0;have U:d.ds=[]:=by simpa using (show d.ds.map (λp=>(p.1,a0M .i64 p.2))=[] from h.ds)
     have Z:d.ps=[]:=by simpa using (show d.ps.map (λp=>(p.1,fR p.2))=[] from h.ps)
     have X:∀k,F k->k<w.heap.size:=h.lt;refine ⟨rfl,λk=>F k∨k=w.heap.size∨k=w.heap.size+1∨k=w.heap.size+2,w.heap.size,w.heap.size+1,w.heap.size+2,?_,?_⟩
     · refine ⟨T,⟨[],q1,ak.empty H,(by intro p Y;cases Y)⟩,?_,?_,?_, .inl h.fc,?_,?_,?_, .inr ⟨_,_,_,rfl,rfl,rfl,by omega,by omega,by omega⟩,?_,h.ok⟩
       · rw [U];exact ak.empty I
       · rw [Z];exact ak.empty J
       · rcases h.kn with v|⟨t,v,N⟩
         · exact .inl v
         · refine .inr ⟨t,v,(N.step (λk r=>A k (h.lt k r.1) r.2.1) (by omega)).wide λk r=>?_⟩;have:=h.lt k r.1;exact ⟨.inl r.1,r.2.1,λe=>by injection e with e;omega,λe=>by injection e with e;omega,λe=>by injection e with e;omega⟩
       · intro m g;injection g with g;exact .inr (.inl g.symm)
       · intro m g;injection g with g;exact .inr (.inr (.inl g.symm))
       · intro m g;injection g with g;exact .inr (.inr (.inr g.symm))
       · intro k f;rcases f with f|f|f|f
         · have:=X k f;omega
         all_goals omega
     · refine ⟨?_,?_,?_,by omega,?_,?_⟩
       · rw [<- q, <- o];rfl
       · rw [<- q, <- o];rfl
       · rw [<- q, <- o];rfl
       · intro k f W;exact A k f λe=>W (e ▸ h.fc)
       · intro k f;rcases f with f|f|f|f
         · exact .inl f
         all_goals exact .inr (by omega)
 · refine (oY c a w ((aa h.blk 0).trans rfl)).mono ?_;rintro z w' ⟨rfl,rfl⟩;exact ⟨rfl,F,a,b,e,h,ag.refl _ _⟩
end
section
open Go.RowKit Go.Maps Go.Shelf
theorem vV:∀u:a0h,(zeroValue 3).run a0d u= .ok (.int .i64 0) u:=λu=>by kernel_rfl
theorem gB:∀u:a0h,(zeroValue 139).run a0d u= .ok (.agg #[.int .i64 0, .bool false]) u:=λu=>by kernel_rfl
theorem ki:∀u:a0h,(zeroValue 64).run a0d u= .ok (.agg #[.int .i64 0, .int .i64 0, .int .i64 0, .int .u8 0, .int .u8 0, .slice none 0 0]) u:=λu=>by kernel_rfl
theorem kS (q:Bool) (a b:Int) (m:Nat):aV false q a b m=aV false false a b m:=by unfold aV;simp
def dr (d:ar) (k:RK) (n:Int):Int:=aV (findK d.ds k).isSome (decide ((findK d.ds k).getD 0=n)) ((findK d.ds k).getD 0) n d.ds.length
theorem oM (d:ar) (k:RK) (n:Int):dropC d k n=if dr d k n=0 then ({d with ds:=insL ltRK d.ds k n},0) else (d,dr d k n):=by
 unfold dropC dr;cases findK d.ds k with
 |none=>simp only [a0P,a0Q];rw [kS (decide (0=n))]
 |some m=>rfl
theorem fw {t q:Bool} {a b:Int} {m:Nat} (h:aV t q a b m=0) (c:t=false):m<5000:=by
 subst c;unfold aV at h;simp only [Bool.false_and,Bool.false_eq_true,if_false,Bool.not_false,Bool.true_and] at h;by_cases h5:5000<=m
 · simp [h5] at h
 · omega
theorem eH {K V:Type} [DecidableEq K] {lt:K->K->Bool} (l:List (K×V)) (k:K) (v:V):(insL lt l k v).length<=l.length+1:=by
 induction l with
 |nil=>simp [insL]
 |cons p l ih=>
  unfold insL;split
  · simp only [a0v];omega
  · split
    · simp only [a0v];omega
    · simp only [a0v];omega
theorem qG {K V:Type} [DecidableEq K] {lt:K->K->Bool} (T:Tot lt) {l:List (K×V)} (b:aw lt l) (k:K) (v:V) (h:(findK l k).isSome=true):(insL lt l k v).length=l.length:=by
 induction l with
 |nil=>simp [findK] at h
 |cons p l ih=>
  obtain ⟨c,d⟩:=List.pairwise_cons.1 b;unfold insL;by_cases hp:lt p.1 k=true
  · rw [if_pos hp];have f:p.1≠k:=by intro e;rw [e,T.irr] at hp;cases hp
    have:(findK l k).isSome=true:=by unfold findK at h ⊢;rw [List.find?_cons] at h;simpa [f] using h
    simp only [a0v];rw [ih d this]
  · rw [if_neg hp];by_cases hk:p.1=k
    · rw [if_pos hk];rfl
    · exfalso;rw [Option.isSome_iff_exists] at h;obtain ⟨x,a⟩:=h;rw [eA T b] at a;rcases List.mem_cons.1 a with a|a
      · exact hk (by rw [<- a])
      · exact hp (c _ a)
theorem oI {K V:Type} [DecidableEq K] {lt:K->K->Bool} (T:Tot lt) {l:List (K×V)} (b:aw lt l) (k:K) (v:V) (a:l.length<=5000) (h:(findK l k).isSome=false->l.length<5000):(insL lt l k v).length<=5000:=by
 cases hf:(findK l k).isSome
 · have:=eH (lt:=lt) l k v;have:=h hf;omega
 · rw [qG T b k v hf];exact a
theorem cG {K V:Type} [DecidableEq K] {lt:K->K->Bool} (T:Tot lt) {l:List (K×V)} (d:aw lt l) {k:K} {v:V} {R:K×V->Prop} (h:∀p∈l,R p) (b:R (k,v)):∀p∈insL lt l k v,R p:=λp c=>by
 rcases (oH T d k v p).1 c with rfl|⟨a,_⟩
 · exact b
 · exact h p a
theorem aY.drop {d:ar} (h:aY d) {k:RK} {n:Int} (b:rkOk k) (c:i64B n) (e:dr d k n=0):aY {d with ds:=insL ltRK d.ds k n}:=by
 refine ⟨⟨h.ok.vs,ew aL h.ok.ds k n,h.ok.ps,h.ok.apart⟩,h.vlen,?_,h.plen,h.right,h.vnum,cG aL h.ok.ds h.dnum c,h.pnum,h.vkey,cG aL h.ok.ds h.dkey b,h.pkey⟩;exact oI aL h.ok.ds k n h.dlen λa=>fw e a
theorem dG.put2 {F:Nat->Prop} {w j:a0h} {c a b e:Nat} {E:a0k} {d:ar} {ds:List (RK×Int)} (h:dG F w c (some a) (some b) (some e) E d) (q:aq b w j) (i:ak recB j b (ds.map λp=>(p.1, .int .i64 p.2))) (C:aY {d with ds:=ds}):
 dG F (j.setCell ⟨c,3,none⟩ (.pointer none)) c (some a) (some b) (some e) (.pointer none) {d with ds:=ds}:=by
 have u:c≠b:=λe=>(aj (show ak recB w b _ from h.ds) h.blk) e.symm;have y:c≠a:=λe=>by obtain ⟨ps,_,g,_⟩:=h.vs;exact (aj (show ak recB w a _ from g) h.blk) e.symm
 have z:c≠e:=λr=>(aj (show ak pairB w e _ from h.ps) h.blk) r.symm;rcases h.one with ⟨f,_⟩|⟨G,H,r,f,g,l,s,x,t⟩
 · cases f
 injection f with f;injection g with g;injection l with l
 subst f;subst g;subst l;have o:∀k,k≠c->k≠b->(j.setCell ⟨c,3,none⟩ (.pointer none)).heap[k]? =w.heap[k]? :=λk f g=>(a0g _ _ _ _ f).trans (q.block k g);have D:(j.setCell ⟨c,3,none⟩ (.pointer none)).heap.size=w.heap.size:=by rw [a0r,q.size]
 refine ⟨?_,h.vs.step (λm i=>by injection i with i;subst i;exact o _ (a0H y) s) (λk v=>o k v.2.1 (λe=>v.2.2.2.1 (by rw [e]))) (by omega),?_,?_, .inl rfl,h.fc,h.f1,h.f2,h.f3, .inr ⟨a,b,e,rfl,rfl,rfl,s,x,t⟩,λk A=>by rw [D];exact h.lt k A,C⟩
 · exact an ((q.block c u).trans h.blk) 3 (.pointer none)
 · exact i.block (a0g _ _ _ _ (a0H u))
 · exact ak.block (show ak pairB w e _ from h.ps) (o e (a0H z) (a0H t))
theorem ua (F:Nat->Prop) (w:a0h) (c:Nat) (d:ar) (h:bz F w c d) (k:RK) (n:Int) (T:rkOk k) (hn:i64B n):
 a0s a0d 27 #[.pointer (some ⟨c,0,none⟩),recK k, .int .i64 n] w λe w'=>e= .returned (.int .i64 (dropC d k n).2)/\∃l,bz l w' c (dropC d k n).1/\ag F w l w':=by
 have X:=a0b (oM d k n);obtain ⟨m1,m2,m3,kn,h⟩:=h;obtain ⟨f,g⟩:=k;unfold recK;dsimp only;obtain ⟨i,O⟩:∃i,w.alloc (.cells #[.int .i64 f, .int .i64 g] 36)=i:=⟨_,rfl⟩;have R:a0n w.heap.size w i:=by rw [<- O];exact (a0e _ w).alloc (a0a _) _
 have D:i.heap[w.heap.size]? =some (.cells #[.int .i64 f, .int .i64 g] 36 (0,0)):=by rw [<- O];exact a0c w _
 have q:=h.below R;have c1:i.cell? ⟨c,1,none⟩=some (.map m2):=(aa q.blk 1).trans rfl;have b0:i.cell? ⟨w.heap.size,0,none⟩=some (.int .i64 f):=(aa D 0).trans rfl;have b1:i.cell? ⟨w.heap.size,1,none⟩=some (.int .i64 g):=(aa D 1).trans rfl;have U:=cj.look_ok (w:=i.drew) (q.ds.block (λ_ _=>rfl)) Tryz.underlying114 vV (f,g) T;have ao:=λty=>cj.len (w:=i.drew) (q.ds.block (λ_ _=>rfl)) Tryz.underlying114 ty;rw [eW d.ds (λn=>a0M .i64 n)] at U;rw [a0q] at ao;have aS:(a0x 114 (.map m2) (.agg #[.int .i64 f, .int .i64 g]) true).run a0d i.drew= .ok (.tuple #[.int .i64 ((findK d.ds (f,g)).getD 0), .bool (findK d.ds (f,g)).isSome]) i.drew:=by refine Eq.trans U ?_;cases findK d.ds (f,g)<;>rfl
 have HX:Hid (dr d (f,g) n=aV (findK d.ds (f,g)).isSome (decide ((findK d.ds (f,g)).getD 0=n)) ((findK d.ds (f,g)).getD 0) n d.ds.length):=rfl;have a9:Hid (dr d (f,g) n=0->aY {d with ds:=insL ltRK d.ds (f,g) n}):=h.ok.drop T hn;clear U;generalize (findK d.ds (f,g)).isSome=there at *;generalize (findK d.ds (f,g)).getD 0=old at *;generalize d.ds.length=many at *;have M:Hid (∀W,a0s a0d 56 #[.bool there, .bool (decide (old=n)), .int .i64 old, .int .i64 n, .int .i64 many] W λe w'=>e= .returned (.int .i64 (dr d (f,g) n))/\W=w'):=λW=>by rw [HX.out];exact gg _ _ _ _ _ W
 have Y:=a0b q;have V:=a0b R;have HB:=a0b D;have Z:Hid (i.heap.size=w.heap.size+1):=by unfold Hid;rw [<- O];simp
 have a7:=a0b h.lt;have aC:c<w.heap.size:=h.lt c h.fc;clear h q R D;by_cases hx:dr d (f,g) n=0
 · rw [hx] at M;have C:=a0b hx;clear hx;go_enter Tryz.func27,Tryz.ntmps27;go_wp2;go_region
   go_wp2_with (first
    |(go_at_call 56;((with_reducible refine a0m (M.out _) ?_);rintro e w2 ⟨rfl,rfl⟩))
    |(go_at_call 57;((with_reducible refine a0m (gw (Y.out.below (a0e _ i).drew)) ?_);rintro e m ⟨rfl,l,a,b,e',t,H⟩)))
   have a3:¬F w.heap.size:=λhf=>by have:=a7.out _ hf;omega
   have aT:¬l w.heap.size:=H.not (by have:=Z.out;show w.heap.size<i.heap.size;omega) a3;have N:m.heap[w.heap.size]? =some (.cells #[.int .i64 f, .int .i64 g] 36 (0,0)):=(H.block _ (by have:=Z.out;show w.heap.size<i.heap.size;omega) a3).trans HB.out;have G:ak recB m b _:=t.ds;obtain ⟨st,al,ad,a4,a0,o,a6⟩:=ak.entry (w:=m.drew) (ak.drew G) gj Tryz.underlying114 vV (f,g) T (by rw [a0q];have:=t.ok.dlen;unfold maxLen;omega);have J:c≠b:=λe=>(aj G t.blk) e.symm;have E:w.heap.size≠b:=λe=>(aj G N) e.symm;have y:m.drew.cell? ⟨c,1,none⟩=some (.map (some b))/\m.drew.cell? ⟨w.heap.size,0,none⟩=some (.int .i64 f)/\m.drew.cell? ⟨w.heap.size,1,none⟩=some (.int .i64 g):=⟨(aa t.blk 1).trans rfl,(aa N 0).trans rfl,(aa N 1).trans rfl⟩;have s:=a0b t;have ac:=a0b H;clear t H G;go_wp2_with fail
   refine wT (λw'=>w'.cell? ⟨c,1,none⟩=some (.map (some b))/\w'.cell? ⟨w.heap.size,0,none⟩=some (.int .i64 f)/\w'.cell? ⟨w.heap.size,1,none⟩=some (.int .i64 g)) 12 ?_;have L:=tkL [0,4,5,6,1,2,3];repeat (refine tkI L ?_ rfl y ?_ ?_;rotate_left;intro w' h;obtain ⟨h0,q,h2⟩:=h;go_simp;rfl;(try go_simp);replace L:=tkO L)
   clear L;refine dO 7 rfl λK j=>?_;refine bn rfl a4 ?_;have u:=And.intro ((o.cell (p:=⟨c,1,none⟩) J).trans y.1) (And.intro ((o.cell (p:=⟨w.heap.size,0,none⟩) E).trans y.2.1) ((o.cell (p:=⟨w.heap.size,1,none⟩) E).trans y.2.2));generalize a0p m.drew b (.map al ad)=w4 at *;refine j _ _ (λ_=>u) ?_;clear j K;go_simp;refine tk 8 ?_ rfl u ?_ ?_;rotate_left;intro w' h;obtain ⟨h0,q,h2⟩:=h;go_simp;rfl;try go_simp
   refine dO 9 rfl λK j=>?_;obtain ⟨r,a5,a2,A⟩:=a6 w4 (.int .i64 n) a0;refine aW rfl a5 ?_;have I:=And.intro ((A.cell (p:=⟨c,1,none⟩) J).trans u.1) (And.intro ((A.cell (p:=⟨w.heap.size,0,none⟩) E).trans u.2.1) ((A.cell (p:=⟨w.heap.size,1,none⟩) E).trans u.2.2));refine j _ _ (λ_=>I) ?_;clear j K;go_simp;refine dO 10 rfl λK j=>?_;go_simp;refine j _ _ (λ_=>I) ?_;clear j K;refine tk 11 ?_ rfl I ?_ ?_;rotate_left;intro w' h;obtain ⟨h0,q,h2⟩:=h;go_simp;rfl;try go_simp
   have z:aq b m r:=(aq.trans ⟨o.os,o.tape,o.output,o.size,o.block⟩ A);have a1:ak recB r b ((insL ltRK d.ds (f,g) n).map λp=>(p.1,a0M .i64 p.2)):=a2.perm (iG aL s.ok.ok.ds (λ_ v=>a0M .i64 v) (f,g) n);have hF:=s.put2 z a1 (a9 C.out);have c3:r.cell? ⟨c,3,none⟩=some kn:=(z.cell (p:=⟨c,3,none⟩) J).trans ((aa s.blk 3).trans rfl);have f3:r.frozen? ⟨c,3,none⟩=false:=(z.frozen (p:=⟨c,3,none⟩) J).trans (ab s.blk 3);have HF:=a0b hF;have a8:=a0b z;clear hF y u I a2 a1 a5 A o a6 a4 a0 z;refine dO 12 rfl λK j=>?_;go_simp;refine j _ _ (λh=>absurd rfl h) ?_;clear j K;refine dN ?_;go_wp2_with fail
   go_ret;rw [X.out,if_pos C.out];refine ⟨rfl,l,⟨_,_,_,_,HF.out⟩,?_⟩;have au:ag F w F i.drew:=ag.of_below V.drew;have av:ag F i.drew l m:=ac.out;have ax:ag l m l r:=ag.of_only a8.out (s.f2 b rfl);have ay:ag l r l (r.setCell ⟨c,3,none⟩ (.pointer none)):=ag.of_only (aq.setCell (aq.refl c r) 3 _) s.fc;exact ((au.trans av).trans ax).trans ay
 · have C:=a0b hx;have b2:((dr d (f,g) n)==0)=false:=by simpa using hx
   generalize dr d (f,g) n=x at *;go_enter Tryz.func27,Tryz.ntmps27;go_wp2;go_region;go_wp2_with (go_at_call 56;((with_reducible refine a0m (M.out _) ?_);rintro e w2 ⟨rfl,rfl⟩))
   go_ret;rw [X.out,if_neg C.out];exact ⟨rfl,F,⟨_,_,_,_,Y.below (a0e _ i).drew⟩,ag.of_below V.drew⟩
end
section
open Go.RowKit Go.Maps Go.Shelf
theorem q36 (a b c d:Int) (w:a0h):(binOp .eql 36 (.agg #[.int .i64 a, .int .i64 b]) (.agg #[.int .i64 c, .int .i64 d])).run a0d w= .ok (.bool (decide ((a,b)=(c,d)))) w:=by
 by_cases h1:a=c
 · by_cases h2:b=d
   · subst h1;subst h2;go_simp
   · subst h1;go_simp
 · go_simp
theorem A0 (a:Int) (c:Bool) (b:Int) (d:Bool) (w:a0h):(binOp .eql 139 (.agg #[.int .i64 a, .bool c]) (.agg #[.int .i64 b, .bool d])).run a0d w= .ok (.bool (decide (a=b)&&decide (c=d))) w:=by
 by_cases h1:a=b
 · subst h1;cases c<;>cases d<;>go_simp
 · go_simp
theorem cT {w:a0h} {b t:Nat} {x y:a0k} (h:w.heap[b]? =some (.cells #[x,y] t (0,0))):w.cell? ⟨b,0,none⟩=some x/\w.cell? ⟨b,1,none⟩=some y:=⟨(aa h 0).trans rfl,(aa h 1).trans rfl⟩
theorem mn {w:a0h} {b t:Nat} {x y z u:a0k} (h:w.heap[b]? =some (.cells #[x,y,z,u] t (0,0))):w.cell? ⟨b,0,none⟩=some x/\w.cell? ⟨b,1,none⟩=some y/\w.cell? ⟨b,2,none⟩=some z/\w.cell? ⟨b,3,none⟩=some u:=⟨(aa h 0).trans rfl,(aa h 1).trans rfl,(aa h 2).trans rfl,(aa h 3).trans rfl⟩
def dU (d:ar) (p:PK) (n:Int) (j:Bool):Int:=aV (findK d.ps p).isSome (decide (((findK d.ps p).getD (0,false)).1=n)&&decide (((findK d.ps p).getD (0,false)).2=j)) ((findK d.ps p).getD (0,false)).1 n d.ps.length
theorem ju (d:ar) (a b:RK) (n:Int) (j:Bool) (c:a≠b):decideC d a b n j=if dU d (pairK a b) n j=0 then ({d with ps:=insL ltPK d.ps (pairK a b) (n,j)},0) else (d,dU d (pairK a b) n j):=by
 unfold decideC dU;rw [if_neg c];cases findK d.ps (pairK a b) with
 |none=>simp only [a0P,a0Q];rw [kS (decide (0=n)&&decide (false=j))]
 |some m=>rfl
theorem oq {a b:RK} (c:rkOk a) (d:rkOk b):pkOk (pairK a b):=by
 unfold pairK;split
 · exact ⟨d,c⟩
 · exact ⟨c,d⟩
theorem yE {a b:RK} (h:a≠b):ltRK (pairK a b).1 (pairK a b).2=true:=by
 unfold pairK;split
 · assumption
 · rename_i d;rcases aL.tot a b h with c|c
   · exact c
   · exact absurd c d
theorem aY.decide {d:ar} (h:aY d) {a b:RK} {n:Int} {j:Bool} (e:a≠b) (c:rkOk a) (f:rkOk b) (i:i64B n) (k:dU d (pairK a b) n j=0):aY {d with ps:=insL ltPK d.ps (pairK a b) (n,j)}:=by
 refine ⟨⟨h.ok.vs,h.ok.ds,ew dm h.ok.ps _ _,cG dm h.ok.ps h.ok.apart (yE e)⟩,h.vlen,h.dlen,?_,h.right,h.vnum,h.dnum,cG dm h.ok.ps h.pnum i,h.vkey,h.dkey,cG dm h.ok.ps h.pkey (oq c f)⟩;exact oI dm h.ok.ps _ _ h.plen λg=>fw k g
theorem dG.put3 {F:Nat->Prop} {w j:a0h} {c a b e:Nat} {E:a0k} {d:ar} {ps:List (PK×(Int×Bool))} (h:dG F w c (some a) (some b) (some e) E d) (q:aq e w j) (i:ak pairB j e (ps.map λp=>(p.1,fR p.2))) (C:aY {d with ps:=ps}):
 dG F (j.setCell ⟨c,3,none⟩ (.pointer none)) c (some a) (some b) (some e) (.pointer none) {d with ps:=ps}:=by
 have z:c≠b:=λe=>(aj (show ak recB w b _ from h.ds) h.blk) e.symm;have y:c≠a:=λe=>by obtain ⟨ps,_,g,_⟩:=h.vs;exact (aj (show ak recB w a _ from g) h.blk) e.symm
 have u:c≠e:=λr=>(aj (show ak pairB w e _ from h.ps) h.blk) r.symm;rcases h.one with ⟨f,_⟩|⟨G,H,r,f,g,l,x,s,t⟩
 · cases f
 injection f with f;injection g with g;injection l with l
 subst f;subst g;subst l;have o:∀k,k≠c->k≠e->(j.setCell ⟨c,3,none⟩ (.pointer none)).heap[k]? =w.heap[k]? :=λk f g=>(a0g _ _ _ _ f).trans (q.block k g);have D:(j.setCell ⟨c,3,none⟩ (.pointer none)).heap.size=w.heap.size:=by rw [a0r,q.size]
 refine ⟨?_,h.vs.step (λm i=>by injection i with i;subst i;exact o _ (a0H y) s) (λk v=>o k v.2.1 (λe=>v.2.2.2.2 (by rw [e]))) (by omega),?_,?_, .inl rfl,h.fc,h.f1,h.f2,h.f3, .inr ⟨a,b,e,rfl,rfl,rfl,x,s,t⟩,λk A=>by rw [D];exact h.lt k A,C⟩
 · exact an ((q.block c u).trans h.blk) 3 (.pointer none)
 · exact ak.block (show ak recB w b _ from h.ds) (o b (a0H z) t)
 · exact i.block (a0g _ _ _ _ (a0H u))
theorem ng (F:Nat->Prop) (w:a0h) (c:Nat) (d:ar) (h:bz F w c d) (a b:RK) (n:Int) (j:Bool) (ha:rkOk a) (D:rkOk b) (hn:i64B n):
 a0s a0d 76 #[.pointer (some ⟨c,0,none⟩),recK a,recK b,fR (n,j)] w λe w'=>e= .returned (.int .i64 (decideC d a b n j).2)/\∃I,bz I w' c (decideC d a b n j).1/\ag F w I w':=by
 by_cases hab:a=b
 · have HE:Hid (decideC d a b n j=(d,1)):=by unfold Hid decideC;rw [if_pos hab]
   subst hab;obtain ⟨g,i⟩:=a;unfold recK fR;dsimp only;have HB:Hid (∀o o' d1,a0n w.heap.size w (((w.alloc o).alloc o').alloc d1)):=λo o' d1=>(((a0e _ w).alloc (a0a _) o).alloc (by simp) o').alloc (by simp;omega) d1;have HH:=a0b h;clear h;go_enter Tryz.func76,Tryz.ntmps76;go_wp2;go_ret;rw [HE.out];exact ⟨rfl,F,HH.below (HB _ _ _),ag.of_below (HB _ _ _)⟩
 have b4:=a0b (ju d a b n j hab);have c7:Hid (dU d (pairK a b) n j=0->aY {d with ps:=insL ltPK d.ps (pairK a b) (n,j)}):=by obtain ⟨_,_,_,_,h⟩:=h;exact h.ok.decide hab ha D hn
 have b8:pkOk (pairK a b):=oq ha D;have b6:Hid (pairK a b=if ltRK b a then (b,a) else (a,b)):=rfl;obtain ⟨m1,m2,C,kn,h⟩:=h;obtain ⟨g,i⟩:=a;obtain ⟨l,q⟩:=b;have cc:(bo (l,q) (g,i)<0)↔ltRK (l,q) (g,i)=true:=ep _ _;have e3:decide ((g,i)=(l,q))=false:=decide_eq_false hab;have HC:Hid (∀W,a0s a0d 49 #[.agg #[.int .i64 l, .int .i64 q], .agg #[.int .i64 g, .int .i64 i]] W λe w'=>e= .returned (.int .i64 (bo (l,q) (g,i)))/\bl W w'):=λW=>eC (l,q) (g,i) W;unfold recK fR;dsimp only;have e5:=λw=>q36 g i l q w;rw [e3] at e5;have e6:=A0;obtain ⟨f,bw⟩:∃f,(((w.alloc (.cells #[.int .i64 g, .int .i64 i] 36)).alloc (.cells #[.int .i64 l, .int .i64 q] 36)).alloc (.cells #[.int .i64 n, .bool j] 139))=f:=⟨_,rfl⟩;have ay:a0n w.heap.size w f:=by rw [<- bw];exact (((a0e _ w).alloc (a0a _) _).alloc (by simp) _).alloc (by simp;omega) _
 have dc:f.heap.size=w.heap.size+3:=by rw [<- bw];simp
 have c9:f.heap[w.heap.size]? =some (.cells #[.int .i64 g, .int .i64 i] 36 (0,0)):=by rw [<- bw,a0f _ _ _ (by simp;omega),a0f _ _ _ (by simp)];exact a0c w _
 have cb:f.heap[w.heap.size+1]? =some (.cells #[.int .i64 l, .int .i64 q] 36 (0,0)):=by rw [<- bw,a0f _ _ _ (by simp)];have:=a0c (w.alloc (.cells #[.int .i64 g, .int .i64 i] 36)) (.cells #[.int .i64 l, .int .i64 q] 36);rwa [a0l] at this
 have d5:f.heap[w.heap.size+2]? =some (.cells #[.int .i64 n, .bool j] 139 (0,0)):=by rw [<- bw];have:=a0c ((w.alloc (.cells #[.int .i64 g, .int .i64 i] 36)).alloc (.cells #[.int .i64 l, .int .i64 q] 36)) (.cells #[.int .i64 n, .bool j] 139);rwa [a0l,a0l] at this
 have x0:f.cell? ⟨w.heap.size,0,none⟩=some (.int .i64 g):=(aa c9 0).trans rfl;have x1:f.cell? ⟨w.heap.size,1,none⟩=some (.int .i64 i):=(aa c9 1).trans rfl;have y0:f.cell? ⟨w.heap.size+1,0,none⟩=some (.int .i64 l):=(aa cb 0).trans rfl;have y1:f.cell? ⟨w.heap.size+1,1,none⟩=some (.int .i64 q):=(aa cb 1).trans rfl;have HH:=a0b (h.below ay);have dk:=a0b c9;have ds:=a0b cb;have dx:=a0b d5;have d2:=a0b ay;have b7:=a0b dc;have bb:=a0b h.lt;obtain ⟨Wp,cu⟩:∃Wp,f.alloc (.cells #[.int .i64 g, .int .i64 i, .int .i64 l, .int .i64 q] 134)=Wp:=⟨_,rfl⟩;have da:a0n f.heap.size f Wp:=by rw [<- cu];exact (a0e _ f).alloc (a0a _) _
 have dd:Wp.heap.size=f.heap.size+1:=by rw [<- cu];simp
 have d6:Wp.heap[f.heap.size]? =some (.cells #[.int .i64 g, .int .i64 i, .int .i64 l, .int .i64 q] 134 (0,0)):=by rw [<- cu];exact a0c f _
 have dy:=a0b d6;have dz:=a0b da;have e0:=a0b dd
 have b5:Hid (∀H,bl Wp H->H.heap[f.heap.size]? =some (.cells #[.int .i64 g, .int .i64 i, .int .i64 l, .int .i64 q] 134 (0,0))/\H.heap[w.heap.size]? =some (.cells #[.int .i64 g, .int .i64 i] 36 (0,0))/\H.heap[w.heap.size+1]? =some (.cells #[.int .i64 l, .int .i64 q] 36 (0,0))/\
  H.heap[w.heap.size+2]? =some (.cells #[.int .i64 n, .bool j] 139 (0,0))/\dG F H c m1 m2 C kn d/\a0n w.heap.size w H):=λH hg=>by
  have D:=hg.below
  have O:=b7.out
  have R:=e0.out
  have a7:a0n f.heap.size f H:=btr dz.out D (by omega)
  exact ⟨(D.block _ (by omega)).trans dy.out,(a7.block _ (by omega)).trans dk.out,(a7.block _ (by omega)).trans ds.out,(a7.block _ (by omega)).trans dx.out,HH.out.below a7,btr d2.out a7 d2.out.size⟩
 clear h ay c9 cb d5 dc hab da dd d6;by_cases hlt:ltRK (l,q) (g,i)=true
 · have e2:bo (l,q) (g,i)<0:=cc.2 hlt;rw [if_pos hlt] at b6;rw [b6.out] at b8 b4 c7;generalize bo (l,q) (g,i)=cm at *;clear hlt cc b6;obtain ⟨v0,v1⟩:=cT (b5 Wp (bl.refl _)).2.1;obtain ⟨v2,v3⟩:=cT (b5 Wp (bl.refl _)).2.2.1;go_enter Tryz.func76,Tryz.ntmps76;go_wp2_with (go_at_call 49;go_loud (((with_reducible refine a0m (HC.out _) ?_);rintro e H ⟨rfl,bO⟩;obtain ⟨g0,g1,g2,g3,g4,g5⟩:=b5.out _ bO;obtain ⟨z0,z1⟩:=cT g1;obtain ⟨z2,z3⟩:=cT g2;obtain ⟨Z,p1,p2,p3⟩:=mn g0;have f0:=ab g0 0;have f1:=ab g0 1;have f2:=ab g0 2;have f3:=ab g0 3;have G0:=a0b g0;have G3:=a0b g3;have G4:=a0b g4;have G5:=a0b g5;clear g0 g1 g2 g3 g4 g5 bO)))
   have a3:Hid ((((((H.setCell ⟨f.heap.size,0,none⟩ (.int .i64 l)).setCell ⟨f.heap.size,1,none⟩ (.int .i64 q)).setCell ⟨f.heap.size,2,none⟩ (.int .i64 g)).setCell ⟨f.heap.size,3,none⟩ (.int .i64 i))).heap[f.heap.size]? =some (.cells #[.int .i64 l, .int .i64 q, .int .i64 g, .int .i64 i] 134 (0,0))):=an (an (an (an G0.out 0 (.int .i64 l)) 1 (.int .i64 q)) 2 (.int .i64 g)) 3 (.int .i64 i);have ao:Hid (aq f.heap.size H ((((H.setCell ⟨f.heap.size,0,none⟩ (.int .i64 l)).setCell ⟨f.heap.size,1,none⟩ (.int .i64 q)).setCell ⟨f.heap.size,2,none⟩ (.int .i64 g)).setCell ⟨f.heap.size,3,none⟩ (.int .i64 i))):=((((aq.refl _ H).setCell 0 _).setCell 1 _).setCell 2 _).setCell 3 _;generalize ((((H.setCell ⟨f.heap.size,0,none⟩ (.int .i64 l)).setCell ⟨f.heap.size,1,none⟩ (.int .i64 q)).setCell ⟨f.heap.size,2,none⟩ (.int .i64 g)).setCell ⟨f.heap.size,3,none⟩ (.int .i64 i))=s at *;have G:Hid (dG F s c m1 m2 C kn d):=G4.out.step (λk hf=>ao.out.block k (λe=>by have:=bb.out k hf;have:=b7.out;omega)) (by rw [ao.out.size];exact a0a _);have a9:Hid (s.heap[w.heap.size+2]? =some (.cells #[.int .i64 n, .bool j] 139 (0,0))):=(ao.out.block _ (by have:=b7.out;omega)).trans G3.out;have a8:Hid (a0n w.heap.size w s):=G5.out.trans (ao.out.below (by have:=b7.out;omega));clear z0 z1 z2 z3 Z p1 p2 p3 f0 f1 f2 f3 x0 x1 y0 y1 v0 v1 v2 v3;have aT:=λty=>cj.len (G.ps) Tryz.underlying115 ty;rw [a0q] at aT;have al:Hid (∀W,(∀m,C=some m->W.heap[m]? =s.heap[m]?)->(a0x 115 (.map C) (.agg #[.int .i64 l, .int .i64 q, .int .i64 g, .int .i64 i]) true).run a0d W= .ok (.tuple #[.agg #[.int .i64 ((findK d.ps ((l,q),g,i)).getD (0,false)).1, .bool ((findK d.ps ((l,q),g,i)).getD (0,false)).2], .bool (findK d.ps ((l,q),g,i)).isSome]) W):=λW hW=>by have:=cj.look_ok (w:=W) (G.ps.block hW) Tryz.underlying115 gB ((l,q),g,i) b8;rw [eW d.ps fR] at this;refine Eq.trans this ?_;cases findK d.ps ((l,q),g,i)<;>rfl
   have HX:Hid (dU d ((l,q),g,i) n j=aV (findK d.ps ((l,q),g,i)).isSome (decide (((findK d.ps ((l,q),g,i)).getD (0,false)).1=n)&&decide (((findK d.ps ((l,q),g,i)).getD (0,false)).2=j)) ((findK d.ps ((l,q),g,i)).getD (0,false)).1 n d.ps.length):=rfl;generalize (findK d.ps ((l,q),g,i)).isSome=there at *;generalize (findK d.ps ((l,q),g,i)).getD (0,false)=ov at *;obtain ⟨o1,o2⟩:=ov;dsimp only at al HX;have dB:Hid (d.ps.length=d.ps.length):=rfl;generalize hmany:d.ps.length=many at aT HX;have HN:Hid (∀W,a0s a0d 56 #[.bool there, .bool (decide (o1=n)&&decide (o2=j)), .int .i64 o1, .int .i64 n, .int .i64 many] W λe w'=>e= .returned (.int .i64 (dU d ((l,q),g,i) n j))/\W=w'):=λW=>by rw [HX.out];exact gg _ _ _ _ _ W
   have cd:=a0b hmany;clear hmany;obtain ⟨Z,p1,p2,p3⟩:=mn a3.out
   have y:s.drew.cell? ⟨c,2,none⟩=some (.map C)/\s.drew.cell? ⟨f.heap.size,0,none⟩=some (.int .i64 l)/\s.drew.cell? ⟨f.heap.size,1,none⟩=some (.int .i64 q)/\s.drew.cell? ⟨f.heap.size,2,none⟩=some (.int .i64 g)/\s.drew.cell? ⟨f.heap.size,3,none⟩=some (.int .i64 i)/\(∀m,C=some m->s.drew.heap[m]? =s.heap[m]?):=
    ⟨(aa G.blk 2).trans rfl,Z,p1,p2,p3,λ_ _=>rfl⟩
   clear Z p1 p2 p3
   have ac:Hid (∀W,a0n s.heap.size s W->W.cell? ⟨c,2,none⟩=some (.map C)/\W.cell? ⟨f.heap.size,0,none⟩=some (.int .i64 l)/\W.cell? ⟨f.heap.size,1,none⟩=some (.int .i64 q)/\W.cell? ⟨f.heap.size,2,none⟩=some (.int .i64 g)/\W.cell? ⟨f.heap.size,3,none⟩=some (.int .i64 i)/\(∀m,C=some m->W.heap[m]? =s.heap[m]?)):=λW D=>
    ⟨fd D _ _ y.1,fd D _ _ y.2.1,fd D _ _ y.2.2.1,fd D _ _ y.2.2.2.1,fd D _ _ y.2.2.2.2.1,λm hm=>D.block m (G.lt m (G.f3 m hm))⟩
   refine wT (λW=>W.cell? ⟨c,2,none⟩=some (.map C)/\W.cell? ⟨f.heap.size,0,none⟩=some (.int .i64 l)/\W.cell? ⟨f.heap.size,1,none⟩=some (.int .i64 q)/\W.cell? ⟨f.heap.size,2,none⟩=some (.int .i64 g)/\W.cell? ⟨f.heap.size,3,none⟩=some (.int .i64 i)/\(∀m,C=some m->W.heap[m]? =s.heap[m]?)) 11 ?_;have t:=tkL [0,4,1,2,3];repeat (refine tkI t ?_ rfl y ?_ ?_;rotate_left;intro w' h;obtain ⟨T,O,R,U,V,L⟩:=h;go_simp;rfl;(try go_simp);replace t:=tkO t)
   clear t;refine tk 5 ?_ rfl y ?_ ?_;rotate_left;intro w' h;obtain ⟨T,O,R,U,V,L⟩:=h;have hl:=al w' L;go_simp;rfl;try go_simp
   have t:=tkL [6,7,8];repeat (refine tkI t ?_ rfl y ?_ ?_;rotate_left;intro w' h;obtain ⟨T,O,R,U,V,L⟩:=h;go_simp;rfl;(try go_simp);replace t:=tkO t)
   clear t;refine dO 9 rfl λK r=>?_;go_simp;have bB:∀o,a0n s.heap.size s (s.drew.alloc o):=λo=>(a0e _ s).drew.alloc (a0a _) o;refine r _ _ (λ_=>ac _ (bB _)) ?_;clear r K;refine dO 10 rfl λK r=>?_;go_simp;have aC:∀o,a0n s.heap.size s (s.alloc o).drew:=λo=>((a0e _ s).alloc (a0a _) o).drew;refine r _ _ (λ_=>ac _ (aC _)) ?_;clear r K;refine dO 11 rfl λK r=>?_;go_simp;refine r _ _ (λh=>absurd rfl h) ?_;clear r K;refine dN ?_;obtain ⟨z,a6⟩:∃z,(s.alloc (.cells #[.int .i64 o1, .bool o2] 139)).drew=z:=⟨_,rfl⟩;have bt:z.heap[s.heap.size]? =some (.cells #[.int .i64 o1, .bool o2] 139 (0,0)):=by rw [<- a6];exact a0c s _
   have Y:a0n s.heap.size s z:=by rw [<- a6];exact aC _
   have a0:=a0b (G.below Y);have d8:=(Y.block _ (ae a3.out)).trans a3.out;have av:=(Y.block _ (ae a9.out)).trans a9.out;have b9:Hid (a0n w.heap.size w z):=btr a8.out Y a8.size;have cx:=λty=>cj.len (w:=z.drew) (a0.ps.block (λ_ _=>rfl)) Tryz.underlying115 ty;rw [a0q,cd.out] at cx;rw [a6];clear aT y ac bB aC a6 Y al G a9 a8 a3 ao;obtain ⟨s0,s1⟩:=cT bt;obtain ⟨r0,r1⟩:=cT av;have e1:z.cell? ⟨c,2,none⟩=some (.map C):=(aa a0.blk 2).trans rfl;have d3:=a0b d8;have bc:=a0b av;clear bt av d8;go_wp2_with fail
   refine wT (λW=>W=z.drew) 14 ?_;have t:=tkL [0,1,2,4,6,8,3,5,7,9,10,11];repeat (refine tkI t ?_ rfl rfl ?_ ?_;rotate_left;intro w' h;obtain rfl:=h;go_simp;rfl;(try go_simp);replace t:=tkO t)
   clear t;refine dO 12 rfl λK r=>?_;go_simp;refine r _ _ (λ_=>rfl) ?_;clear r K;refine dO 13 rfl λK r=>?_;go_simp;go_at_call 56;refine (HN _).mono ?_;rintro e w9 ⟨rfl,rfl⟩;refine r _ _ (λ_=>rfl) ?_;clear r K;refine dO 14 rfl λK r=>?_;go_simp;refine r _ _ (λh=>absurd rfl h) ?_;clear r K;refine dN ?_;by_cases hx:dU d ((l,q),g,i) n j=0
   · have a4:=a0b hx;rw [hx];go_wp2_with (go_at_call 57;((with_reducible refine a0m (gw (a0.out.below (a0e _ z).drew)) ?_);rintro e A ⟨rfl,I,ma,mb,u,M,y⟩))
     have cz:¬F f.heap.size:=λhf=>by have:=bb.out _ hf;have:=b7.out;omega
     have cy:¬F (w.heap.size+2):=λhf=>by have:=bb.out _ hf;omega
     have cs:f.heap.size<z.drew.heap.size:=ae d3.out;have cp:w.heap.size+2<z.drew.heap.size:=ae bc.out;have cv:=(y.block _ cs cz).trans d3.out;have au:=(y.block _ cp cy).trans bc.out;have X:ak pairB A u _:=M.ps;obtain ⟨st,bs,bk,c4,bA,c1,c6⟩:=ak.entry (w:=A.drew) (ak.drew X) sE Tryz.underlying115 gB ((l,q),g,i) b8 (by rw [a0q];have:=M.ok.plen;unfold maxLen;omega);have aS:c≠u:=λe=>(aj X M.blk) e.symm;have cq:f.heap.size≠u:=λe=>(aj X cv) e.symm;have cl:w.heap.size+2≠u:=λe=>(aj X au) e.symm;have ad:Hid (∀W,aq u A W->W.cell? ⟨c,2,none⟩=some (.map (some u))/\W.cell? ⟨f.heap.size,0,none⟩=some (.int .i64 l)/\W.cell? ⟨f.heap.size,1,none⟩=some (.int .i64 q)/\W.cell? ⟨f.heap.size,2,none⟩=some (.int .i64 g)/\W.cell? ⟨f.heap.size,3,none⟩=some (.int .i64 i)/\W.cell? ⟨w.heap.size+2,0,none⟩=some (.int .i64 n)/\W.cell? ⟨w.heap.size+2,1,none⟩=some (.bool j)):=λW ho=>by obtain ⟨Z,p1,p2,p3⟩:=mn ((ho.block _ cq).trans cv);obtain ⟨r0,r1⟩:=cT ((ho.block _ cl).trans au);exact ⟨(aa ((ho.block c aS).trans M.blk) 2).trans rfl,Z,p1,p2,p3,r0,r1⟩
     have b0:aq u A A.drew:=(aq.refl u A).drew;have bv:=ad _ b0;have J:=a0b M;have ch:=a0b y;clear M y X cv au;go_wp2_with fail
     refine wT (λW=>W.cell? ⟨c,2,none⟩=some (.map (some u))/\W.cell? ⟨f.heap.size,0,none⟩=some (.int .i64 l)/\W.cell? ⟨f.heap.size,1,none⟩=some (.int .i64 q)/\W.cell? ⟨f.heap.size,2,none⟩=some (.int .i64 g)/\W.cell? ⟨f.heap.size,3,none⟩=some (.int .i64 i)/\W.cell? ⟨w.heap.size+2,0,none⟩=some (.int .i64 n)/\W.cell? ⟨w.heap.size+2,1,none⟩=some (.bool j)) 12 ?_;have t:=tkL [0,4,5,6,1,2,3];repeat (refine tkI t ?_ rfl bv ?_ ?_;rotate_left;intro w' h;obtain ⟨T,O,R,U,V,L,h6⟩:=h;go_simp;rfl;(try go_simp);replace t:=tkO t)
     clear t;refine dO 7 rfl λK r=>?_;refine bn rfl c4 ?_;have b3:aq u A (a0p A.drew u (.map bs bk)):=b0.trans c1;have ax:=ad _ b3;generalize a0p A.drew u (.map bs bk)=w4 at *;refine r _ _ (λ_=>ax) ?_;clear r K;go_simp;refine tk 8 ?_ rfl ax ?_ ?_;rotate_left;intro w' h;obtain ⟨T,O,R,U,V,L,h6⟩:=h;go_simp;rfl;try go_simp
     refine dO 9 rfl λK r=>?_;obtain ⟨E,c5,c0,c2⟩:=c6 w4 (.agg #[.int .i64 n, .bool j]) bA;refine aW rfl c5 ?_;have N:aq u A E:=b3.trans c2;have a5:=ad _ N;refine r _ _ (λ_=>a5) ?_;clear r K;go_simp;refine dO 10 rfl λK r=>?_;go_simp;refine r _ _ (λ_=>a5) ?_;clear r K;refine tk 11 ?_ rfl a5 ?_ ?_;rotate_left;intro w' h;obtain ⟨T,O,R,U,V,L,h6⟩:=h;go_simp;rfl;try go_simp
     have bY:ak pairB E u ((insL ltPK d.ps ((l,q),g,i) (n,j)).map λp=>(p.1,fR p.2)):=c0.perm (iG dm J.ok.ok.ps (λ_ v=>fR v) ((l,q),g,i) (n,j));have hF:=J.put3 N bY (c7 a4.out);have c3:E.cell? ⟨c,3,none⟩=some kn:=(N.cell (p:=⟨c,3,none⟩) aS).trans ((aa J.blk 3).trans rfl);have f3:E.frozen? ⟨c,3,none⟩=false:=(N.frozen (p:=⟨c,3,none⟩) aS).trans (ab J.blk 3);have HF:=a0b hF;have cg:=a0b N;clear hF bv ax a5 c0 bY c5 c2 c1 c6 c4 bA N b0 b3;refine dO 12 rfl λK r=>?_;go_simp;refine r _ _ (λh=>absurd rfl h) ?_;clear r K;refine dN ?_;go_wp2_with fail
     go_ret;rw [b4.out,if_pos a4.out];refine ⟨rfl,I,⟨_,_,_,_,HF.out⟩,?_⟩;have cP:ag F w F z.drew:=ag.of_below b9.drew;have cQ:ag I A I E:=ag.of_only cg.out (J.f3 u rfl);have d0:ag I E I (E.setCell ⟨c,3,none⟩ (.pointer none)):=ag.of_only (aq.setCell (aq.refl c E) 3 _) J.fc;exact ((cP.trans ch.out).trans cQ).trans d0
   · have a4:=a0b hx;have e4:((dU d ((l,q),g,i) n j)==0)=false:=by simpa using hx
     generalize dU d ((l,q),g,i) n j=x at *;go_wp2_with fail
     go_ret;rw [b4.out,if_neg a4.out];exact ⟨rfl,F,⟨_,_,_,_,a0.below (a0e _ z).drew⟩,ag.of_below b9.drew⟩
 · have e2:¬(bo (l,q) (g,i)<0):=λhh=>hlt (cc.1 hh);rw [if_neg hlt] at b6;rw [b6.out] at b8 b4 c7;generalize bo (l,q) (g,i)=cm at *;clear hlt cc b6;obtain ⟨v0,v1⟩:=cT (b5 Wp (bl.refl _)).2.1;obtain ⟨v2,v3⟩:=cT (b5 Wp (bl.refl _)).2.2.1;go_enter Tryz.func76,Tryz.ntmps76;go_wp2_with (go_at_call 49;go_loud (((with_reducible refine a0m (HC.out _) ?_);rintro e s ⟨rfl,bO⟩;obtain ⟨g0,g1,g2,g3,g4,g5⟩:=b5.out _ bO;have a3:=a0b g0;have a9:=a0b g3;have G:=a0b g4;have a8:=a0b g5;have ao:=a0b g5;clear g0 g1 g2 g3 g4 g5 bO)))
   clear x0 x1 y0 y1 v0 v1 v2 v3;have aT:=λty=>cj.len (G.ps) Tryz.underlying115 ty;rw [a0q] at aT;have al:Hid (∀W,(∀m,C=some m->W.heap[m]? =s.heap[m]?)->(a0x 115 (.map C) (.agg #[.int .i64 g, .int .i64 i, .int .i64 l, .int .i64 q]) true).run a0d W= .ok (.tuple #[.agg #[.int .i64 ((findK d.ps ((g,i),l,q)).getD (0,false)).1, .bool ((findK d.ps ((g,i),l,q)).getD (0,false)).2], .bool (findK d.ps ((g,i),l,q)).isSome]) W):=λW hW=>by have:=cj.look_ok (w:=W) (G.ps.block hW) Tryz.underlying115 gB ((g,i),l,q) b8;rw [eW d.ps fR] at this;refine Eq.trans this ?_;cases findK d.ps ((g,i),l,q)<;>rfl
   have HX:Hid (dU d ((g,i),l,q) n j=aV (findK d.ps ((g,i),l,q)).isSome (decide (((findK d.ps ((g,i),l,q)).getD (0,false)).1=n)&&decide (((findK d.ps ((g,i),l,q)).getD (0,false)).2=j)) ((findK d.ps ((g,i),l,q)).getD (0,false)).1 n d.ps.length):=rfl;generalize (findK d.ps ((g,i),l,q)).isSome=there at *;generalize (findK d.ps ((g,i),l,q)).getD (0,false)=ov at *;obtain ⟨o1,o2⟩:=ov;dsimp only at al HX;have dB:Hid (d.ps.length=d.ps.length):=rfl;generalize hmany:d.ps.length=many at aT HX;have HN:Hid (∀W,a0s a0d 56 #[.bool there, .bool (decide (o1=n)&&decide (o2=j)), .int .i64 o1, .int .i64 n, .int .i64 many] W λe w'=>e= .returned (.int .i64 (dU d ((g,i),l,q) n j))/\W=w'):=λW=>by rw [HX.out];exact gg _ _ _ _ _ W
   have cd:=a0b hmany;clear hmany;obtain ⟨Z,p1,p2,p3⟩:=mn a3.out
   have y:s.drew.cell? ⟨c,2,none⟩=some (.map C)/\s.drew.cell? ⟨f.heap.size,0,none⟩=some (.int .i64 g)/\s.drew.cell? ⟨f.heap.size,1,none⟩=some (.int .i64 i)/\s.drew.cell? ⟨f.heap.size,2,none⟩=some (.int .i64 l)/\s.drew.cell? ⟨f.heap.size,3,none⟩=some (.int .i64 q)/\(∀m,C=some m->s.drew.heap[m]? =s.heap[m]?):=
    ⟨(aa G.blk 2).trans rfl,Z,p1,p2,p3,λ_ _=>rfl⟩
   clear Z p1 p2 p3
   have ac:Hid (∀W,a0n s.heap.size s W->W.cell? ⟨c,2,none⟩=some (.map C)/\W.cell? ⟨f.heap.size,0,none⟩=some (.int .i64 g)/\W.cell? ⟨f.heap.size,1,none⟩=some (.int .i64 i)/\W.cell? ⟨f.heap.size,2,none⟩=some (.int .i64 l)/\W.cell? ⟨f.heap.size,3,none⟩=some (.int .i64 q)/\(∀m,C=some m->W.heap[m]? =s.heap[m]?)):=λW D=>
    ⟨fd D _ _ y.1,fd D _ _ y.2.1,fd D _ _ y.2.2.1,fd D _ _ y.2.2.2.1,fd D _ _ y.2.2.2.2.1,λm hm=>D.block m (G.lt m (G.f3 m hm))⟩
   refine wT (λW=>W.cell? ⟨c,2,none⟩=some (.map C)/\W.cell? ⟨f.heap.size,0,none⟩=some (.int .i64 g)/\W.cell? ⟨f.heap.size,1,none⟩=some (.int .i64 i)/\W.cell? ⟨f.heap.size,2,none⟩=some (.int .i64 l)/\W.cell? ⟨f.heap.size,3,none⟩=some (.int .i64 q)/\(∀m,C=some m->W.heap[m]? =s.heap[m]?)) 11 ?_;have t:=tkL [0,4,1,2,3];repeat (refine tkI t ?_ rfl y ?_ ?_;rotate_left;intro w' h;obtain ⟨T,O,R,U,V,L⟩:=h;go_simp;rfl;(try go_simp);replace t:=tkO t)
   clear t;refine tk 5 ?_ rfl y ?_ ?_;rotate_left;intro w' h;obtain ⟨T,O,R,U,V,L⟩:=h;have hl:=al w' L;go_simp;rfl;try go_simp
   have t:=tkL [6,7,8];repeat (refine tkI t ?_ rfl y ?_ ?_;rotate_left;intro w' h;obtain ⟨T,O,R,U,V,L⟩:=h;go_simp;rfl;(try go_simp);replace t:=tkO t)
   clear t;refine dO 9 rfl λK r=>?_;go_simp;have bB:∀o,a0n s.heap.size s (s.drew.alloc o):=λo=>(a0e _ s).drew.alloc (a0a _) o;refine r _ _ (λ_=>ac _ (bB _)) ?_;clear r K;refine dO 10 rfl λK r=>?_;go_simp;have aC:∀o,a0n s.heap.size s (s.alloc o).drew:=λo=>((a0e _ s).alloc (a0a _) o).drew;refine r _ _ (λ_=>ac _ (aC _)) ?_;clear r K;refine dO 11 rfl λK r=>?_;go_simp;refine r _ _ (λh=>absurd rfl h) ?_;clear r K;refine dN ?_;obtain ⟨z,a6⟩:∃z,(s.alloc (.cells #[.int .i64 o1, .bool o2] 139)).drew=z:=⟨_,rfl⟩;have bt:z.heap[s.heap.size]? =some (.cells #[.int .i64 o1, .bool o2] 139 (0,0)):=by rw [<- a6];exact a0c s _
   have Y:a0n s.heap.size s z:=by rw [<- a6];exact aC _
   have a0:=a0b (G.below Y);have a7:=(Y.block _ (ae a3.out)).trans a3.out;have av:=(Y.block _ (ae a9.out)).trans a9.out;have b9:Hid (a0n w.heap.size w z):=btr a8.out Y a8.size;have cx:=λty=>cj.len (w:=z.drew) (a0.ps.block (λ_ _=>rfl)) Tryz.underlying115 ty;rw [a0q,cd.out] at cx;rw [a6];clear aT y ac bB aC a6 Y al G a9 a8 a3 ao;obtain ⟨s0,s1⟩:=cT bt;obtain ⟨r0,r1⟩:=cT av;have e1:z.cell? ⟨c,2,none⟩=some (.map C):=(aa a0.blk 2).trans rfl;have d4:=a0b a7;have bc:=a0b av;clear bt av a7;go_wp2_with fail
   refine wT (λW=>W=z.drew) 14 ?_;have t:=tkL [0,1,2,4,6,8,3,5,7,9,10,11];repeat (refine tkI t ?_ rfl rfl ?_ ?_;rotate_left;intro w' h;obtain rfl:=h;go_simp;rfl;(try go_simp);replace t:=tkO t)
   clear t;refine dO 12 rfl λK r=>?_;go_simp;refine r _ _ (λ_=>rfl) ?_;clear r K;refine dO 13 rfl λK r=>?_;go_simp;go_at_call 56;refine (HN _).mono ?_;rintro e w9 ⟨rfl,rfl⟩;refine r _ _ (λ_=>rfl) ?_;clear r K;refine dO 14 rfl λK r=>?_;go_simp;refine r _ _ (λh=>absurd rfl h) ?_;clear r K;refine dN ?_;by_cases hx:dU d ((g,i),l,q) n j=0
   · have a4:=a0b hx;rw [hx];go_wp2_with (go_at_call 57;((with_reducible refine a0m (gw (a0.out.below (a0e _ z).drew)) ?_);rintro e A ⟨rfl,I,ma,mb,u,M,y⟩))
     have cz:¬F f.heap.size:=λhf=>by have:=bb.out _ hf;have:=b7.out;omega
     have cy:¬F (w.heap.size+2):=λhf=>by have:=bb.out _ hf;omega
     have cs:f.heap.size<z.drew.heap.size:=ae d4.out;have cp:w.heap.size+2<z.drew.heap.size:=ae bc.out;have ay:=(y.block _ cs cz).trans d4.out;have au:=(y.block _ cp cy).trans bc.out;have X:ak pairB A u _:=M.ps;obtain ⟨st,bs,bk,c4,bA,c1,c6⟩:=ak.entry (w:=A.drew) (ak.drew X) sE Tryz.underlying115 gB ((g,i),l,q) b8 (by rw [a0q];have:=M.ok.plen;unfold maxLen;omega);have aS:c≠u:=λe=>(aj X M.blk) e.symm;have cq:f.heap.size≠u:=λe=>(aj X ay) e.symm;have cl:w.heap.size+2≠u:=λe=>(aj X au) e.symm;have ad:Hid (∀W,aq u A W->W.cell? ⟨c,2,none⟩=some (.map (some u))/\W.cell? ⟨f.heap.size,0,none⟩=some (.int .i64 g)/\W.cell? ⟨f.heap.size,1,none⟩=some (.int .i64 i)/\W.cell? ⟨f.heap.size,2,none⟩=some (.int .i64 l)/\W.cell? ⟨f.heap.size,3,none⟩=some (.int .i64 q)/\W.cell? ⟨w.heap.size+2,0,none⟩=some (.int .i64 n)/\W.cell? ⟨w.heap.size+2,1,none⟩=some (.bool j)):=λW ho=>by obtain ⟨Z,p1,p2,p3⟩:=mn ((ho.block _ cq).trans ay);obtain ⟨r0,r1⟩:=cT ((ho.block _ cl).trans au);exact ⟨(aa ((ho.block c aS).trans M.blk) 2).trans rfl,Z,p1,p2,p3,r0,r1⟩
     have b0:aq u A A.drew:=(aq.refl u A).drew;have bv:=ad _ b0;have J:=a0b M;have ch:=a0b y;clear M y X ay au;go_wp2_with fail
     refine wT (λW=>W.cell? ⟨c,2,none⟩=some (.map (some u))/\W.cell? ⟨f.heap.size,0,none⟩=some (.int .i64 g)/\W.cell? ⟨f.heap.size,1,none⟩=some (.int .i64 i)/\W.cell? ⟨f.heap.size,2,none⟩=some (.int .i64 l)/\W.cell? ⟨f.heap.size,3,none⟩=some (.int .i64 q)/\W.cell? ⟨w.heap.size+2,0,none⟩=some (.int .i64 n)/\W.cell? ⟨w.heap.size+2,1,none⟩=some (.bool j)) 12 ?_;have t:=tkL [0,4,5,6,1,2,3];repeat (refine tkI t ?_ rfl bv ?_ ?_;rotate_left;intro w' h;obtain ⟨T,O,R,U,V,L,h6⟩:=h;go_simp;rfl;(try go_simp);replace t:=tkO t)
     clear t;refine dO 7 rfl λK r=>?_;refine bn rfl c4 ?_;have b3:aq u A (a0p A.drew u (.map bs bk)):=b0.trans c1;have ax:=ad _ b3;generalize a0p A.drew u (.map bs bk)=w4 at *;refine r _ _ (λ_=>ax) ?_;clear r K;go_simp;refine tk 8 ?_ rfl ax ?_ ?_;rotate_left;intro w' h;obtain ⟨T,O,R,U,V,L,h6⟩:=h;go_simp;rfl;try go_simp
     refine dO 9 rfl λK r=>?_;obtain ⟨E,c5,c0,c2⟩:=c6 w4 (.agg #[.int .i64 n, .bool j]) bA;refine aW rfl c5 ?_;have N:aq u A E:=b3.trans c2;have a5:=ad _ N;refine r _ _ (λ_=>a5) ?_;clear r K;go_simp;refine dO 10 rfl λK r=>?_;go_simp;refine r _ _ (λ_=>a5) ?_;clear r K;refine tk 11 ?_ rfl a5 ?_ ?_;rotate_left;intro w' h;obtain ⟨T,O,R,U,V,L,h6⟩:=h;go_simp;rfl;try go_simp
     have bY:ak pairB E u ((insL ltPK d.ps ((g,i),l,q) (n,j)).map λp=>(p.1,fR p.2)):=c0.perm (iG dm J.ok.ok.ps (λ_ v=>fR v) ((g,i),l,q) (n,j));have hF:=J.put3 N bY (c7 a4.out);have c3:E.cell? ⟨c,3,none⟩=some kn:=(N.cell (p:=⟨c,3,none⟩) aS).trans ((aa J.blk 3).trans rfl);have f3:E.frozen? ⟨c,3,none⟩=false:=(N.frozen (p:=⟨c,3,none⟩) aS).trans (ab J.blk 3);have HF:=a0b hF;have cg:=a0b N;clear hF bv ax a5 c0 bY c5 c2 c1 c6 c4 bA N b0 b3;refine dO 12 rfl λK r=>?_;go_simp;refine r _ _ (λh=>absurd rfl h) ?_;clear r K;refine dN ?_;go_wp2_with fail
     go_ret;rw [b4.out,if_pos a4.out];refine ⟨rfl,I,⟨_,_,_,_,HF.out⟩,?_⟩;have cP:ag F w F z.drew:=ag.of_below b9.drew;have cQ:ag I A I E:=ag.of_only cg.out (J.f3 u rfl);have d0:ag I E I (E.setCell ⟨c,3,none⟩ (.pointer none)):=ag.of_only (aq.setCell (aq.refl c E) 3 _) J.fc;exact ((cP.trans ch.out).trans cQ).trans d0
   · have a4:=a0b hx;have e4:((dU d ((g,i),l,q) n j)==0)=false:=by simpa using hx
     generalize dU d ((g,i),l,q) n j=x at *;go_wp2_with fail
     go_ret;rw [b4.out,if_neg a4.out];exact ⟨rfl,F,⟨_,_,_,_,a0.below (a0e _ z).drew⟩,ag.of_below b9.drew⟩
theorem rq (F:Nat->Prop) (w:a0h) (c:Nat) (d:ar) (h:bz F w c d) (a b:RK) (n:Int) (r:rkOk a) (s:rkOk b) (t:i64B n):
 a0s a0d 39 #[.pointer (some ⟨c,0,none⟩),recK a,recK b, .int .i64 n] w λe w'=>e= .returned (.int .i64 (decideC d a b n false).2)/\∃g,bz g w' c (decideC d a b n false).1/\ag F w g w':=by
 have i:∀o f,a0n w.heap.size w ((w.alloc o).alloc f):=λo f=>((a0e _ w).alloc (a0a _) o).alloc (by simp) f;have l:=a0b (λo f=>ng F ((w.alloc o).alloc f) c d (h.below (i o f)) a b n false r s t);have k:=a0b i;clear h i;obtain ⟨u,v⟩:=a;obtain ⟨x,y⟩:=b;unfold recK fR at *;dsimp only at *;go_enter Tryz.func39,Tryz.ntmps39;go_wp2_with (go_at_call 76;((with_reducible refine a0m (l.out _ _) ?_);rintro e z ⟨rfl,j⟩;have m:=a0b j;clear j))
 go_ret;obtain ⟨g,p,q⟩:=m.out;exact ⟨rfl,g,p,(ag.of_below (k _ _)).trans q⟩
theorem tW (F:Nat->Prop) (w:a0h) (c:Nat) (d:ar) (h:bz F w c d) (a b:RK) (n:Int) (r:rkOk a) (s:rkOk b) (t:i64B n):
 a0s a0d 40 #[.pointer (some ⟨c,0,none⟩),recK a,recK b, .int .i64 n] w λe w'=>e= .returned (.int .i64 (decideC d a b n true).2)/\∃g,bz g w' c (decideC d a b n true).1/\ag F w g w':=by
 have i:∀o f,a0n w.heap.size w ((w.alloc o).alloc f):=λo f=>((a0e _ w).alloc (a0a _) o).alloc (by simp) f;have l:=a0b (λo f=>ng F ((w.alloc o).alloc f) c d (h.below (i o f)) a b n true r s t);have k:=a0b i;clear h i;obtain ⟨u,v⟩:=a;obtain ⟨x,y⟩:=b;unfold recK fR at *;dsimp only at *;go_enter Tryz.func40,Tryz.ntmps40;go_wp2_with (go_at_call 76;((with_reducible refine a0m (l.out _ _) ?_);rintro e z ⟨rfl,j⟩;have m:=a0b j;clear j))
 go_ret;obtain ⟨g,p,q⟩:=m.out;exact ⟨rfl,g,p,(ag.of_below (k _ _)).trans q⟩
end
end Go.Proofs.YtjcimanddakkaaaGreatDoor
