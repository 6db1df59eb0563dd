/- Lemmas. -/
import Derived.Test.YtjcimanddakkaaaGreatDoorY2
import Derived.RangeFuncNested
import Derived.RangeFuncBound
import Derived.Shelf.RegionOpen
import Derived.OwnWalkIn
import Derived.LoopNIn
import Derived.LoopIn
import Derived.StillTailTactics
import Derived.DeepKeys4
set_option maxRecDepth 100000
set_option maxHeartbeats 8000000
namespace Go.Proofs.YtjcimanddakkaaaGreatDoor
open Go.Ending renaming returned→e6
open Go.Value renaming bool→e7,int→J,slice→e8,pointer→em,map→er
open _root_.Option renaming some→X,none→Y
open Go.IntKind renaming i64→U,u8→ej
open Go.Obj renaming cells→e9
open Go.Lib renaming hid→Z
open Tryz
open _root_.Nat renaming le_refl→es,zero_le→g8,zero_add→hi
open Go.World renaming alloc_heap_new→eQ,putObj_heap_other→fx,size_alloc→gb,size_setCell→gq,ownsRow_nil→g9,putObj_heap_same→hD
open Go.RowKit.Below renaming refl→fl,heap_alloc→fp,heap_setCell→fr
open Go renaming World→ft,Value→fz,Calls→gs,rounds_succ→gP,KeepsOthers→g6,grownBy_putObj'→g7,TypeId→hd,Program→hJ,wp_loop_rounds→hK
open _root_.List renaming take_succ_eq_append_getElem→fy,take_of_length_le→gi,length_map→gp,flatMap_cons→gt,length_cons→gy,getElem_mem→gz,nil_append→ht,map_cons→hH,length_append→hN
open Go.Calls renaming mono→gd
open Go.ChangeMaps renaming setBlock→gn
open Go.Program renaming keyLits→gx
open Go.Instr renaming lookup→gO
open Go.Lib renaming run_eql_slice_nil→gQ
open _root_.Ne renaming symm→hv
open _root_.Int renaming tdiv_eq_ediv_of_nonneg→hC
open _root_.Prod renaming ext→hG
open Go.Value renaming int→hI
open _root_.Option renaming isSome_none→hL,getD_none→hM
section
open Go.RowKit Go.Shelf
structure cV (B:Nat) (M:Nat->Prop) (X:ft) (M':Nat->Prop) (Y:ft):Prop where
 os:Y.os=X.os
 tape:Y.tape=X.tape
 output:Y.output=X.output
 size:X.heap.size<=Y.heap.size
 block:∀k,k<X.heap.size->¬M k->(B<=k->∀o,X.heap[k]? =some o->o.isCells=true)->Y.heap[k]? =X.heap[k]?
 new:∀k,M' k->M k∨X.heap.size<=k
 lt:∀k,M' k->k<Y.heap.size
def gK {α:Type} (B:Nat) (I:(Nat->Prop)->List α->ft->Prop):Prop:=∀M s b a c,I M s b->cV B M b a c->I a s c
def mj (M:Nat->Prop) (a b:ft):Prop:=∀k,M k->b.heap[k]? =a.heap[k]?
section
variable {F:Fence} {n:Nat} {P:hJ}
def iI {α:Type} (F:Fence) (n:Nat) (P:hJ) (g:Nat) (lb:Array fz) (i:α->Array fz) (S h:List α->Prop) (G:List α->α->Prop) (f:Nat->Prop) (j:ft):Prop:=
 ∀(l:Nat) (J Jx:(Nat->Prop)->List α->ft->Prop) (W:ft),Bw j W->gK W.heap.size J->
  (∀M b x c,J M b c->G b x->YieldAt F (n - 1) P l (i x) c λe a=>
   (e=e6 (e7 true)/\J M (b++[x]) a/\mj M c a/\g6 c a)∨(e=e6 (e7 false)/\Jx M (b++[x]) a))->
  J f [] W->
  CallsIn F n P g (#[.func (.yield l) #[] #[]]++lb) W λe a=>(∃v,e=e6 v)/\((∃M d,S d/\J M d a)∨(∃M b,h b/\Jx M b a))
def Ab {α:Type} (M:Nat->Prop) (I:(Nat->Prop)->List α->ft->Prop) (b:Code->(Nat->Prop)->List α->ft->Prop) (a:List α) (W:ft):Exit->Act->ft->Prop
 | .normal,_,W'=>g6 W W'/\mj M W W'/\I M a W'
 | .ret,_,W'=>g6 W W'/\b .ret M a W'
 | .exit id,_,W'=>g6 W W'/\b (.exit id) M a W'
 | .goto t,_,W'=>g6 W W'/\b (.goto t) M a W'
 | .panic _,_,_=>False
 | .outgrown,_,_=>False
theorem cV.put {B:Nat} {M:Nat->Prop} {a:ft} (d:∀k,M k->k<a.heap.size) (l:Nat) (g:B<=l) (o b:Obj) (i:a.heap[l]? =X o) (f:o.isCells=false):cV B M a M (a.putObj l b):=
 ⟨rfl,rfl,rfl,(g7 a l b).size,λk c _ h=>fx (λe=>by subst e;have:=h g o i;rw [f] at this;cases this),λ_ h=> .inl h,λk c=>Nat.lt_of_lt_of_le (d k c) (g7 a l b).size⟩
theorem cV.alloc {B:Nat} {M:Nat->Prop} {a:ft} (c:∀k,M k->k<a.heap.size) (o:Obj):cV B M a M (a.alloc o):=
 ⟨rfl,rfl,rfl,by simp,λk b _ _=>fp a o k b,λ_ h=> .inl h,λk b=>by have:=c k b;simp;omega⟩
theorem kK {α:Type} {g:Operand} {ps:Array Tmp} {assign body:Code} {Q:Exit->Act->ft->Prop} {a:Act} {w:ft}
 (b8:F.round=Y) (h1:1<=n) {gf:Nat} {lb:Array fz} (hg:a.eval g= .func (.func gf) #[] lb) (ac:F.fn gf) (eg:∀args w,(callFunc gf args).run P w= .ok (.enter gf args) w)
 {a0:α->Array fz} {S Sp:List α->Prop} {G:List α->α->Prop} {M0:Nat->Prop} {w0:ft} (b9:iI F (n - 1) P gf lb a0 S Sp G M0 w0) (a4:∀k,M0 k->k<w.heap.size) (a7:Bw w0 w) (b7:∀x,(a0 x).size=ps.size)
 (I:(Nat->Prop)->List α->ft->Prop) (Ix:Code->(Nat->Prop)->List α->ft->Prop) (O:gK w.heap.size I) (a2:∀c,gK w.heap.size (Ix c)) (a6:∀M s C,I M s C->∀k,M k->k<C.heap.size) (a5:∀c M s C,Ix c M s C->∀k,M k->k<C.heap.size)
 (h0:I M0 [] w) (a₁:α->Act)
 (ax:∀(l:Nat) (x:α) (W:ft) (K:Act->ft->Prop),K (a₁ x) W->
  assign.wpIn (F.inRound l) (n - 1 - 1) P (Exit.then K (λ_ _ _=>False)) {tmps:=(ps.zip (a0 x)).foldl (λt (p,v)=>t.setIfInBounds p v) a.tmps,defers:=[]} W)
 (aC:∀(l:Nat) (M:Nat->Prop) (f:List α) (x:α) (W:ft),I M f W->G f x->body.wpIn (F.inRound l) (n - 1 - 1) P (Ab M I Ix (f++[x]) W) (a₁ x) W)
 (aS:∀(D:Nat) (M:Nat->Prop) (xs:List α) (W:ft),w.heap.size<=D->S xs->I M xs W->W.heap[D]? =X (.deferred (X []))->Q .normal {a with defers:={target:= .collected D,args:= #[]}::a.defers} W)
 (bb:∀(D:Nat) (c:Code) (M:Nat->Prop) (f:List α) (W:ft),w.heap.size<=D->Sp f->Ix c M f W->W.heap[D]? =X (.deferred (X []))->c.wpIn F n P Q {a with defers:={target:= .collected D,args:= #[]}::a.defers} W):
 (Code.rangeFunc g ps assign body).wpIn F n P Q a w:=by
 refine wpIn_rangeFunc ?_;intro fn aT;rw [b8];obtain ⟨rec,A⟩:∃rec:LoopState->Option Code->Loop,rec=λst pe=>{state:=st,pending:=pe,fn,tmps:=a.tmps,params:=ps,assign,body,defers:=w.heap.size}:=⟨_,rfl⟩;obtain ⟨r,R⟩:=Qe ((w.alloc (.deferred (X []))).alloc (.loop (rec .ready Y)));have ao:r.heap[w.heap.size+1]? =X (.loop (rec .ready Y)):=by rw [<- R];have:=eQ (w.alloc (.deferred (X []))) (.loop (rec .ready Y));rwa [gb] at this
 have al:r.heap[w.heap.size]? =X (.deferred (X [])):=by rw [<- R];exact (fp _ _ _ (by simp)).trans (eQ w _)
 have ad:I M0 [] r:=by rw [<- R];exact O _ _ _ _ _ (O _ _ _ _ _ h0 (cV.alloc a4 _)) (cV.alloc (λk b=>by have:=a4 k b;simp;omega) _)
 have bc:r.heap.size=w.heap.size+2:=by rw [<- R];simp
 have ay:Bw w0 r:=by rw [<- R];exact a7.trans ((((fl _ w).alloc (es _) _).alloc (by simp) _).mono a7.size)
 refine ⟨w.heap.size+1,[{target:= .collected w.heap.size,args:= #[]}],r,{target:= .fn (.func gf) lb,args:= #[.func (.yield (w.heap.size+1)) #[] #[]]},r,gf,
  #[.func (.yield (w.heap.size+1)) #[] #[]]++lb,r,?_,?_,?_,?_,λ_=>h1,?_⟩
 · rw [<- R,A];exact run_enterLoop_outer _ _ _ _ _
 · simp only [resolve,hg];simp [go_sem]
 · intro f' a8;simp [Target.leads] at a8;subst a8;exact ac
 · simp [invoke,go_sem,eg]
 · refine (b9 (w.heap.size+1)
    (λM f W=>I M f W/\¬M (w.heap.size+1)/\¬M w.heap.size/\W.heap[w.heap.size+1]? =X (.loop (rec .ready Y))/\W.heap[w.heap.size]? =X (.deferred (X [])))
    (λM f W=>∃c,Ix c M f W/\W.heap[w.heap.size+1]? =X (.loop (rec .done (X c)))/\W.heap[w.heap.size]? =X (.deferred (X [])))
    r ay
    (λM s C M' a9 hs y=>by
     obtain ⟨z,V,n2,d,b⟩:=hs
     have b3:w.heap.size+1<C.heap.size:=(Array.getElem?_eq_some_iff.1 d).1
     have hT:cV w.heap.size M C M' a9:=⟨y.os,y.tape,y.output,y.size,λk b h2 h3=>y.block k b h2 λhB o L=>h3 (by omega) o L,y.new,y.lt⟩
     exact ⟨O _ _ _ _ _ z hT,λh=>by rcases y.new _ h with h|h;exact V h;omega,λh=>by rcases y.new _ h with h|h;exact n2 h;omega,
      (y.block _ b3 V (λhB=>by omega)).trans d,(y.block _ (by omega) n2 (λhB=>by omega)).trans b⟩)
    ?_ ⟨ad,λh=>by have:=a4 _ h;omega,λh=>by have:=a4 _ h;omega,ao,al⟩).mono ?_
   ·
    rintro M f x W ⟨z,V,n2,d,b⟩ b5
    have b6:w.heap.size+1<W.heap.size:=(Array.getElem?_eq_some_iff.1 d).1
    have hy:=run_yield (P:=P) (args:=a0 x) d (by rw [A];exact b7 x)
    rw [A] at hy
    refine ⟨fn,_,assign,body,hy,roundIn_of_wpIn aT (ax _ x W _ ⟨_,run_beginRound d (by rw [A]),?_⟩)⟩
    have b4:(W.putObj (w.heap.size+1) (.loop {rec .ready Y with state:= .busy})).heap[w.heap.size+1]? =X (.loop {rec .ready Y with state:= .busy}):=hD b6
    have b1:(W.putObj (w.heap.size+1) (.loop {rec .ready Y with state:= .busy})).heap[w.heap.size]? =X (.deferred (X [])):=(fx (by omega)).trans b
    have au:=a6 _ _ _ z
    have b0:=O _ _ _ _ _ z (cV.put au (w.heap.size+1) (by omega) _ (.loop {rec .ready Y with state:= .busy}) d rfl)
    refine wpIn_mono (aC _ M f x _ b0 b5) ?_
    have a1:∀(q:Option Code) (i:ft),g6 (W.putObj (w.heap.size+1) (.loop {rec .ready Y with state:= .busy})) i->
     (Instr.endRound (w.heap.size+1) q).run P i= .ok (e7 q.isNone) (i.putObj (w.heap.size+1) (.loop (rec (if q.isNone then .ready else .done) q)))/\
     i.heap[w.heap.size+1]? =X (.loop {rec .ready Y with state:= .busy})/\
     (i.putObj (w.heap.size+1) (.loop (rec (if q.isNone then .ready else .done) q))).heap[w.heap.size+1]? =X (.loop (rec (if q.isNone then .ready else .done) q))/\
     (i.putObj (w.heap.size+1) (.loop (rec (if q.isNone then .ready else .done) q))).heap[w.heap.size]? =X (.deferred (X [])):=λq i j=>by
     have m:=j.same _ _ b4 rfl
     have:=run_endRound (P:=P) q m
     rw [A] at this ⊢
     exact ⟨this,by rw [A] at m;exact m,hD (Array.getElem?_eq_some_iff.1 m).1,(fx (by omega)).trans (j.same _ _ b1 rfl)⟩
    rintro e a3 i T
    cases e with
    |normal=>
     obtain ⟨j,b2,u⟩:=T
     obtain ⟨N,m,E,H⟩:=a1 Y i j
     refine ⟨_,_,N, .inl ⟨rfl,⟨O _ _ _ _ _ u (cV.put (a6 _ _ _ u) _ (by omega) _ _ m rfl),V,n2,E,H⟩,λk b=>?_,?_⟩⟩
     · have e1:k≠w.heap.size+1:=λe=>V (e ▸ b)
       exact ((fx (by omega)).trans (b2 k b)).trans (fx (by omega))
     · refine ⟨Nat.le_trans (Nat.le_trans (g7 W (w.heap.size+1) _).size j.size) (g7 i (w.heap.size+1) _).size,λk o L hc=>?_⟩
       by_cases e1:k=w.heap.size+1
       · subst e1
         rw [d] at L
         injection L with L
         subst L
         exact E
       · exact (fx (by omega)).trans (j.same k o ((fx (by omega)).trans L) hc)
    |ret=>
     obtain ⟨j,u⟩:=T
     obtain ⟨N,m,E,H⟩:=a1 (X .ret) i j
     exact ⟨_,_,N, .inr ⟨rfl, .ret,a2 _ _ _ _ _ _ u (cV.put (a5 _ _ _ _ u) _ (by omega) _ _ m rfl),E,H⟩⟩
    |exit id=>
     obtain ⟨j,u⟩:=T
     obtain ⟨N,m,E,H⟩:=a1 (X (.exit id)) i j
     exact ⟨_,_,N, .inr ⟨rfl, .exit id,a2 _ _ _ _ _ _ u (cV.put (a5 _ _ _ _ u) _ (by omega) _ _ m rfl),E,H⟩⟩
    |goto t=>
     obtain ⟨j,u⟩:=T
     obtain ⟨N,m,E,H⟩:=a1 (X (.goto t)) i j
     exact ⟨_,_,N, .inr ⟨rfl, .goto t,a2 _ _ _ _ _ _ u (cV.put (a5 _ _ _ _ u) _ (by omega) _ _ m rfl),E,H⟩⟩
    |panic ch=>exact T.elim
    |outgrown=>exact T.elim
   ·
    rintro e W2 ⟨⟨v,rfl⟩,(⟨M,xs,hS,z,V,n2,d,b⟩|⟨M,f,av,c,z,d,b⟩)⟩
    · exact ⟨Y,_,by have:=run_endLoop (P:=P) d (by rw [A];simp);rw [A] at this;exact this,aS _ M xs _ (es _) hS (O _ _ _ _ _ z (cV.put (a6 _ _ _ z) _ (by omega) _ _ d rfl)) ((fx (by omega)).trans b)⟩
    · exact ⟨X c,_,by have:=run_endLoop (P:=P) d (by rw [A];simp);rw [A] at this;exact this,bb _ c M f _ (es _) av (a2 c _ _ _ _ _ z (cV.put (a5 _ _ _ _ z) _ (by omega) _ _ d rfl)) ((fx (by omega)).trans b)⟩
end
end
section
open Go.RowKit Go.Shelf
section
variable {P:hJ} {ops:Array Oper} {Q:Exit->Act->ft->Prop}
theorem pY {n:Nat} {a:String} {args:Array fz} {w:ft} {R:fz->ft->Prop} (h:Rows P a args w R):RowsIn Fence.wide n P a args w R:=
 λc b _=>let ⟨v,w',r,s⟩:=h c b;⟨v,w',r,stepsIn_wide.2 s⟩
theorem rP {n l:Nat} (b:1<=n) {o:Oper} {a:Act} {K:Act->ft->Prop} {r:Result Next} (h:o.upon P a K Q r):o.uponIn (Fence.wide.inRound l) n P a K Q r:=by
 cases r with
 |ok x w'=>
  cases x<;>simp only [Oper.upon,Oper.uponIn] at h ⊢ <;>
   first
    |exact h
    |exact ⟨λ_=>b,CallsIn.inRound l (callsIn_wide.2 h)⟩
    |exact ⟨λ_=>b,pY h⟩
 |halt x w'=>cases x<;>simp only [Oper.upon,Oper.uponIn] at h ⊢ <;>exact h
def kA (ops:Array Oper):Bool:=ops.toList.all λo=>match o.op with | .defer _=>false|_=>true
theorem oE (h:kA ops=true) {i:Nat} {o:Oper} (a:ops[i]? =X o):∀c,o.op≠ .defer c:=λc e=>by
 unfold kA at h;rw [List.all_eq_true] at h;have b:o∈ops.toList:=by rw [<- Array.getElem?_toList] at a;exact List.mem_of_getElem? a
 have:=h o b;rw [e] at this;cases this
theorem vY {n l:Nat} (m:1<=n) {e:Region.Mode} (j:kA ops=true) (p:¬LetsOut Q):∀(c:Nat) (d:Array Bool) (a:Act) (w:ft),
 wpAny P e ops Q c d a w->wpAnyIn (Fence.wide.inRound l) n P e ops Q c d a w:=by
 intro c;induction c with
 |zero=>intro d a w h;exact h
 |succ c ih=>
  rintro d a w ⟨f,g⟩;refine ⟨f,λi k=>?_⟩;have b:=g i k;unfold wpOp at b;unfold wpOpIn;cases ho:ops[i]? with
  |none=>rw [ho] at b;exact ih _ _ _ b
  |some o=>
   rw [ho] at b;simp only at b ⊢;by_cases hw:Region.wanted o (yielded ops a.tmps)=true
   · rw [if_pos hw] at b ⊢;refine ⟨λ_ _=>trivial,?_⟩;rw [Oper.semAt_eq _ _ _ (oE j ho)];rcases b with b|b
     · exact rP m (Oper.wp_mono (λa w=>ih _ a w) b)
     · exact absurd b.2 p
   · rw [if_neg hw] at b ⊢;exact ⟨λ_ _=>trivial,ih _ _ _ b⟩
theorem mx {id m l:Nat} {b:List Oper} {a:Act} {w:ft} (S:ft->Prop) (z:Nat) (e:P.follows .mixedOrders=true) (c:1<=m) (d:kA b.toArray=true) (f:¬LetsOut Q)
 (h:anyT P .any b.toArray Q S z b.toArray.size (Array.replicate b.toArray.size false) a w.drew):(Code.region id b.toArray true).wpIn (Fence.wide.inRound l) m P Q a w:=
 wpIn_region_any e (vY c d f _ _ _ _ (lZ _ _ _ _ h))
end
end
section
open Go.RowKit Go.Maps Go.Shelf
theorem Ad (b:Nat) (x y:Int) (w:ft) (a:w.cell? ⟨b,0,Y⟩=X (J U x)) (c1:w.cell? ⟨b,1,Y⟩=X (J U y)):
 gs prog 90 #[e8 (X ⟨b,0,Y⟩) 2 2] w λe w'=>e=e6 (J U (if x≠0 then x else y))/\w=w':=by
 by_cases hx:x=0
 · subst hx;by_cases hy:y=0
   · subst hy;go_enter func90,ntmps90;go_wp2;refine hK 3 ?_;rw [gP];go_wp2;rw [gP];go_wp2;rw [gP];go_wp2;go_ret;exact ⟨rfl,rfl⟩
   · go_enter func90,ntmps90;go_wp2;refine hK 3 ?_;rw [gP];go_wp2;rw [gP];go_wp2;go_ret;exact ⟨rfl,rfl⟩
 · rw [if_pos hx];go_enter func90,ntmps90;go_wp2;refine hK 3 ?_;rw [gP];go_wp2;go_ret;exact ⟨rfl,rfl⟩
theorem tT (W:ft) (x y:fz) (t n:Nat) (h:W.heap.size=n):(W.alloc (e9 #[x,y] t)).drew.cell? ⟨n,0,Y⟩=X x/\(W.alloc (e9 #[x,y] t)).drew.cell? ⟨n,1,Y⟩=X y:=by
 subst h;have a:(W.alloc (e9 #[x,y] t)).heap[W.heap.size]? =X (e9 #[x,y] t (0,0)):=eQ W _;exact ⟨(aa a 0).trans rfl,(aa a 1).trans rfl⟩
def recK (a:RK):fz:= .agg #[J U a.1,J U a.2]
theorem i7 (a b:RK) (w:ft):gs prog 25 #[recK a,recK b] w λe w'=>e=e6 (e7 (ltRK a b))/\Bw w w':=by
 obtain ⟨c,f⟩:=a;obtain ⟨d,g⟩:=b;unfold recK ltRK;dsimp only;by_cases h:c=d
 · subst h;go_enter func25,ntmps25;go_wp2;go_ret;exact ⟨ap (by simp),((fl _ w).alloc (es _) _).alloc (by simp) _⟩
 · have i:(c==d)=false:=by simpa using h
   go_enter func25,ntmps25;go_wp2;go_ret;exact ⟨ap (by simp [h]),((fl _ w).alloc (es _) _).alloc (by simp) _⟩
theorem eJ (a b:RK) (w:ft):gs prog 49 #[recK a,recK b] w λe w'=>e=e6 (J U (bp a b))/\bn w w':=by
 obtain ⟨g,i⟩:=a;obtain ⟨j,k⟩:=b;unfold recK bp;dsimp only;have z:Hid (∀(x y:Int) (W:ft),gs prog 91 #[J U x,J U y] W λe w'=>e=e6 (J U (eT x y))/\W=w'):=iz;have H:Hid (∀(b:Nat) (x y:Int) (w:ft),w.cell? ⟨b,0,Y⟩=X (J U x)->w.cell? ⟨b,1,Y⟩=X (J U y)->gs prog 90 #[e8 (X ⟨b,0,Y⟩) 2 2] w λe w'=>e=e6 (J U (if x≠0 then x else y))/\w=w'):=Ad;generalize hp:eT g j=p;generalize hq:eT i k=q;have I:=Z hp;have L:=Z hq;clear hp hq;go_enter func49,ntmps49;go_wp2;have M:(w.alloc (e9 #[J U g,J U i] 36)).heap.size=w.heap.size+1:=by simp
 obtain ⟨c,l⟩:=Qe ((w.alloc (e9 #[J U g,J U i] 36)).alloc (e9 #[J U j,J U k] 36));have m:c.heap[w.heap.size]? =X (e9 #[J U g,J U i] 36 (0,0)):=by rw [<- l,fp _ _ _ (by simp)];exact eQ w _
 have r:c.heap[w.heap.size+1]? =X (e9 #[J U j,J U k] 36 (0,0)):=by rw [<- l];have:=eQ (w.alloc (e9 #[J U g,J U i] 36)) (e9 #[J U j,J U k] 36);rwa [gb] at this
 have f:c.drew.cell? ⟨w.heap.size,0,Y⟩=X (J U g)/\c.drew.cell? ⟨w.heap.size,1,Y⟩=X (J U i)/\c.drew.cell? ⟨w.heap.size+1,0,Y⟩=X (J U j)/\c.drew.cell? ⟨w.heap.size+1,1,Y⟩=X (J U k):=
  ⟨(aa m 0).trans rfl,(aa m 1).trans rfl,(aa r 0).trans rfl,(aa r 1).trans rfl⟩
 have A:∀o,(c.alloc o).drew.cell? ⟨w.heap.size,0,Y⟩=X (J U g)/\(c.alloc o).drew.cell? ⟨w.heap.size,1,Y⟩=X (J U i)/\(c.alloc o).drew.cell? ⟨w.heap.size+1,0,Y⟩=X (J U j)/\(c.alloc o).drew.cell? ⟨w.heap.size+1,1,Y⟩=X (J U k):=λo=>
  ⟨(aU c o _ _ (ae m)).trans f.1,(aU c o _ _ (ae m)).trans f.2.1,(aU c o _ _ (ae r)).trans f.2.2.1,(aU c o _ _ (ae r)).trans f.2.2.2⟩
 have C:bn w c:=by rw [<- l];exact ((bn.refl w).alloc _).alloc _
 have D:c.heap.size=w.heap.size+2:=by rw [<- l];simp
 have G:=Z C;rw [l];clear m r l M C;refine wT (λW=>W.cell? ⟨w.heap.size,0,Y⟩=X (J U g)/\W.cell? ⟨w.heap.size,1,Y⟩=X (J U i)/\W.cell? ⟨w.heap.size+1,0,Y⟩=X (J U j)/\W.cell? ⟨w.heap.size+1,1,Y⟩=X (J U k)) 12 ?_;refine tk 0 ?_ rfl f ?_ ?_;rotate_left;intro w' h;go_simp;rfl;refine tk 1 ?_ rfl f ?_ ?_;rotate_left;rintro w' ⟨s,t,u,v⟩;go_simp;rfl;refine tk 2 ?_ rfl f ?_ ?_;rotate_left;intro w' h;go_simp;rfl;refine tk 3 ?_ rfl f ?_ ?_;rotate_left;rintro w' ⟨s,t,u,v⟩;go_simp;rfl;refine tk 5 ?_ rfl f ?_ ?_;rotate_left;intro w' h;go_simp;rfl;refine tk 6 ?_ rfl f ?_ ?_;rotate_left;rintro w' ⟨s,t,u,v⟩;go_simp;rfl;refine tk 7 ?_ rfl f ?_ ?_;rotate_left;intro w' h;go_simp;rfl;refine tk 8 ?_ rfl f ?_ ?_;rotate_left;rintro w' ⟨s,t,u,v⟩;go_simp;rfl;refine Dp 4 λK d=>?_;go_simp;go_at_call 91;refine (z _ _ _).mono ?_;rintro e E ⟨rfl,rfl⟩;rw [I.o];refine d _ _ (λ_=>f) ?_;clear d K;refine Dp 9 λK d=>?_;go_simp;go_at_call 91;refine (z _ _ _).mono ?_;rintro e E ⟨rfl,rfl⟩;rw [L.o];refine d _ _ (λ_=>f) ?_;clear d K;refine Dp 10 λK d=>?_;go_simp;refine d _ _ (λ_=>A _) ?_;clear d K;refine Dp 11 λK d=>?_;go_simp;go_at_call 90;refine (H _ _ _ _ (tT c _ _ _ _ D).1 (tT c _ _ _ _ D).2).mono ?_;rintro e E ⟨rfl,rfl⟩;refine d _ _ (λ_=>A _) ?_;clear d K;refine Dl 12 ?_;go_wp2;all_goals go_ret
 all_goals exact ⟨rfl,(G.alloc _).drew⟩
def pairV (a:PK):fz:= .agg #[J U a.1.1,J U a.1.2,J U a.2.1,J U a.2.2]
def jQ (N:Nat) (a b c d e f g h:Int) (W:ft):Prop:=W.cell? ⟨N,0,Y⟩=X (J U a)/\W.cell? ⟨N,1,Y⟩=X (J U b)/\W.cell? ⟨N,2,Y⟩=X (J U c)/\W.cell? ⟨N,3,Y⟩=X (J U d)/\W.cell? ⟨N+1,0,Y⟩=X (J U e)/\W.cell? ⟨N+1,1,Y⟩=X (J U f)/\W.cell? ⟨N+1,2,Y⟩=X (J U g)/\W.cell? ⟨N+1,3,Y⟩=X (J U h)
theorem qj (W:ft) (x y:fz) (t:Nat):(W.alloc (e9 #[x,y] t)).cell? ⟨W.heap.size,0,Y⟩=X x/\(W.alloc (e9 #[x,y] t)).cell? ⟨W.heap.size,1,Y⟩=X y:=by
 have a:(W.alloc (e9 #[x,y] t)).heap[W.heap.size]? =X (e9 #[x,y] t (0,0)):=eQ W _;exact ⟨(aa a 0).trans rfl,(aa a 1).trans rfl⟩
theorem kj (a b:PK) (w:ft):gs prog 67 #[pairV a,pairV b] w λe w'=>e=e6 (J U (nv a b))/\bn w w':=by
 obtain ⟨⟨f,g⟩,i,j⟩:=a;obtain ⟨⟨l,m⟩,r,s⟩:=b;unfold pairV nv;dsimp only;have HC:Hid (∀(C D E G:Int) (W:ft),gs prog 49 #[.agg #[J U C,J U D], .agg #[J U E,J U G]] W λe w'=>e=e6 (J U (bp (C,D) (E,G)))/\bn W w'):=λC D E G=>eJ (C,D) (E,G);have HO:Hid (∀(b:Nat) (x y:Int) (w:ft),w.cell? ⟨b,0,Y⟩=X (J U x)->w.cell? ⟨b,1,Y⟩=X (J U y)->gs prog 90 #[e8 (X ⟨b,0,Y⟩) 2 2] w λe w'=>e=e6 (J U (if x≠0 then x else y))/\w=w'):=Ad;generalize hp:bp (f,g) (l,m)=p;generalize hq:bp (i,j) (r,s)=q;have HP:=Z hp;have HQ:=Z hq;clear hp hq;go_enter func67,ntmps67;go_wp2;have ao:(w.alloc (e9 #[J U f,J U g,J U i,J U j] 134)).heap.size=w.heap.size+1:=by simp
 obtain ⟨c,t⟩:=Qe ((w.alloc (e9 #[J U f,J U g,J U i,J U j] 134)).alloc (e9 #[J U l,J U m,J U r,J U s] 134));have V:c.heap[w.heap.size]? =X (e9 #[J U f,J U g,J U i,J U j] 134 (0,0)):=by rw [<- t,fp _ _ _ (by simp)];exact eQ w _
 have hB:c.heap[w.heap.size+1]? =X (e9 #[J U l,J U m,J U r,J U s] 134 (0,0)):=by rw [<- t];have:=eQ (w.alloc (e9 #[J U f,J U g,J U i,J U j] 134)) (e9 #[J U l,J U m,J U r,J U s] 134);rwa [gb] at this
 have a5:bn w c:=by rw [<- t];exact ((bn.refl w).alloc _).alloc _
 have av:c.heap.size=w.heap.size+2:=by rw [<- t];simp
 have u:Hid (∀W,Bw c W->jQ w.heap.size f g i j l m r s W):=λW hb=>by have z:=(hb.block _ (ae V)).trans V;have A:=(hb.block _ (ae hB)).trans hB;exact ⟨(aa z 0).trans rfl,(aa z 1).trans rfl,(aa z 2).trans rfl,(aa z 3).trans rfl,(aa A 0).trans rfl,(aa A 1).trans rfl,(aa A 2).trans rfl,(aa A 3).trans rfl⟩
 have k:jQ w.heap.size f g i j l m r s c.drew:=u _ (fl _ c).drew;have a9:=Z a5;rw [t];clear V hB t ao a5;refine wT (λW=>jQ w.heap.size f g i j l m r s W) 12 ?_;refine tk 0 ?_ rfl k ?_ ?_;rotate_left;intro w' h;go_simp;rfl;refine tk 1 ?_ rfl k ?_ ?_;rotate_left;rintro w' ⟨H,I,L,M,N,O,R,T⟩;go_simp;rfl;refine tk 2 ?_ rfl k ?_ ?_;rotate_left;intro w' h;go_simp;rfl;refine tk 3 ?_ rfl k ?_ ?_;rotate_left;rintro w' ⟨H,I,L,M,N,O,R,T⟩;go_simp;rfl;refine tk 5 ?_ rfl k ?_ ?_;rotate_left;intro w' h;go_simp;rfl;refine tk 6 ?_ rfl k ?_ ?_;rotate_left;rintro w' ⟨H,I,L,M,N,O,R,T⟩;go_simp;rfl;refine tk 7 ?_ rfl k ?_ ?_;rotate_left;intro w' h;go_simp;rfl;refine tk 8 ?_ rfl k ?_ ?_;rotate_left;rintro w' ⟨H,I,L,M,N,O,R,T⟩;go_simp;rfl;refine Dp 4 λK d=>?_;go_simp;go_at_call 49;refine (HC _ _ _ _ _).mono ?_;rintro e w2 ⟨rfl,ad⟩;rw [HP.o];have a7:bn c w2:=(bn.refl c).drew.trans ad;have ac:Bw c w2:=a7.below;refine d _ _ (λ_=>u _ ac) ?_;clear d K;refine Dp 9 λK d=>?_;go_simp;go_at_call 49;refine (HC _ _ _ _ _).mono ?_;rintro e v ⟨rfl,al⟩;rw [HQ.o];have a8:bn c v:=a7.trans al;have a0:Bw c v:=a8.below;refine d _ _ (λ_=>u _ a0) ?_;clear d K;have au:=a0.size;refine Dp 10 λK d=>?_;go_simp;have a6:∀o,Bw c (v.alloc o):=λo=>a0.alloc au o;refine d _ _ (λ_=>u _ (a6 _)) ?_;clear d K;refine Dp 11 λK d=>?_;go_simp;go_at_call 90;refine (HO _ _ _ _ (qj v _ _ _).1 (qj v _ _ _).2).mono ?_;rintro e w4 ⟨rfl,rfl⟩;refine d _ _ (λ_=>u _ (a6 _)) ?_;clear d K;refine Dl 12 ?_;go_wp2;all_goals go_ret
 all_goals exact ⟨rfl,a9.trans (a8.alloc _)⟩
end
section
open Go.RowKit Go.Maps Go.Shelf
open Go.WideMaps (KeyLaw)
theorem lr:laidOutB prog=true:=by kernel_rfl
theorem A5:(36:hd)<prog.types.size:=of_decide_eq_true (by kernel_rfl)
theorem Aw:(134:hd)<prog.types.size:=of_decide_eq_true (by kernel_rfl)
theorem Av:(211:hd)<prog.types.size:=of_decide_eq_true (by kernel_rfl)
theorem Bt:prog.keyTypeAt 3 36=true:=by kernel_rfl
theorem gC:KeyLaw prog 36:=deep_law_laid lr (m:=3) (by omega) A5 Bt (by rw [underlying36])
theorem A9:prog.keyTypeAt 4 134=true:=by kernel_rfl
theorem sI:KeyLaw prog 134:=deep_law_laid lr (m:=4) (by omega) Aw A9 (by rw [underlying134])
theorem A8:prog.keyTypeAt 3 211=true:=by kernel_rfl
theorem AJ:KeyLaw prog 211:=deep_law_laid lr (m:=3) (by omega) Av A8 (by rw [underlying211])
def i64B (n:Int):Prop:= -9223372036854775808<=n/\n<=9223372036854775807
def rkOk (a:RK):Prop:=i64B a.1/\i64B a.2
def pkOk (p:PK):Prop:=rkOk p.1/\rkOk p.2
theorem Bl {n:Int} (h:i64B n):(Lit.int U n).wf=true:=by
 obtain ⟨a,b⟩:=h;simp only [Lit.wf,IntKind.min,IntKind.max,IntKind.signed,IntKind.bits];simp;omega
theorem nZ:prog.types.size=467:=by kernel_rfl
theorem s9:prog.cellsOf 3=1:=by kernel_rfl
theorem o9:prog.cellsOf 36=2:=by kernel_rfl
theorem rv:prog.cellsOf 134=4:=by kernel_rfl
theorem ru:prog.cellsOf 211=2:=by kernel_rfl
theorem AL:prog.keyType 36=true:=by kernel_rfl
theorem zr:prog.keyType 134=true:=by kernel_rfl
theorem zq:prog.keyType 211=true:=by kernel_rfl
theorem tV (d:Nat) (n:Int) (h:i64B n):prog.keyLits (d+1) 3 [.int .i64 n]=X [.int .i64 n]:=by
 unfold gx;rw [underlying3];simp [Bl h]
theorem sB (d:Nat) (a:RK) (h:rkOk a):prog.keyLits (d+2) 36 [.int .i64 a.1, .int .i64 a.2]=X [.int .i64 a.1, .int .i64 a.2]:=by
 unfold gx;rw [underlying36];simp [o9,s9,tV d _ h.1,tV d _ h.2]
theorem yY (d:Nat) (a:RK) (h:rkOk a):prog.keyLits (d+2) 211 [.int .i64 a.1, .int .i64 a.2]=X [.int .i64 a.1, .int .i64 a.2]:=by
 unfold gx;rw [underlying211];simp [ru,s9,tV d _ h.1,tV d _ h.2]
theorem yZ (d:Nat) (p:PK) (h:pkOk p):prog.keyLits (d+3) 134 [.int .i64 p.1.1, .int .i64 p.1.2, .int .i64 p.2.1, .int .i64 p.2.2]=X [.int .i64 p.1.1, .int .i64 p.1.2, .int .i64 p.2.1, .int .i64 p.2.2]:=by
 unfold gx;rw [underlying134];simp [rv,o9,sB d _ h.1,sB d _ h.2]
def recB:ee prog 36 RK where
 kv:=recK
 kl a:= .string (keyBytes [.int .i64 a.1, .int .i64 a.2])
 ok:=rkOk
 keyed:=Keyed.of_law gC
 key a h:=by
  unfold keyOf
  rw [underlying36,nZ]
  have:=sB 466 a h
  simp only [AL,recK,Value.cells] at this ⊢
  simp [Value.formed,underlying36,o9,this]
 inj a b h:=by
  unfold recK at h
  injection h with h
  simp at h
  exact hG h.1 h.2
def pairB:ee prog 134 PK where
 kv:=pairV
 kl p:= .string (keyBytes [.int .i64 p.1.1, .int .i64 p.1.2, .int .i64 p.2.1, .int .i64 p.2.2])
 ok:=pkOk
 keyed:=Keyed.of_law sI
 key a h:=by
  unfold keyOf
  rw [underlying134,nZ]
  have:=yZ 465 a h
  simp only [zr,pairV,Value.cells] at this ⊢
  simp [Value.formed,underlying134,rv,this]
 inj a b h:=by
  unfold pairV at h
  injection h with h
  simp at h
  exact hG (hG h.1 h.2.1) (hG h.2.2.1 h.2.2.2)
def AA:ee prog 211 RK where
 kv:=recK
 kl a:= .string (keyBytes [.int .i64 a.1, .int .i64 a.2])
 ok:=rkOk
 keyed:=Keyed.of_law AJ
 key a h:=by
  unfold keyOf
  rw [underlying211,nZ]
  have:=yY 466 a h
  simp only [zq,recK,Value.cells] at this ⊢
  simp [Value.formed,underlying211,ru,this]
 inj a b h:=by
  unfold recK at h
  injection h with h
  simp at h
  exact hG h.1 h.2
end
section
open Go.RowKit Go.Maps Go.Shelf
def recI (n:Int):RK:=(1+n.emod 3,1+(n.tdiv 3).emod 4)
theorem cS {fn:Func} {p:Tmp} {c:hd} (h:fn.results= #[.cell p c]) (b:Array fz) (P:hJ) (w:ft):
 (results fn b).run P w=((asAddr (b.getD p undef)).run P w).andThen λa d=>(loadVar c a).run P d:=by
 simp only [results,h];simp [Sem.run_bind,Result.andThen]
theorem ow (n:Int) (w:ft) (k: -9223372036854775808<=n/\n<=9223372036854775807):gs prog 20 #[J U n] w λe w'=>e=e6 (recK (recI n))/\Bw w w':=by
 unfold recI recK;dsimp only;have i:0<=n.emod 3/\n.emod 3<3:=⟨Int.emod_nonneg _ (by omega),Int.emod_lt_of_pos _ (by omega)⟩;have j:0<=(n.tdiv 3).emod 4/\(n.tdiv 3).emod 4<4:=⟨Int.emod_nonneg _ (by omega),Int.emod_lt_of_pos _ (by omega)⟩;have c:Hid (∀W,gs prog 24 #[J U n,J U 3] W λe w'=>e=e6 (J U (n.emod 3))/\W=w'):=λW=>jy n 3 W (by omega) (by omega);have d:Hid (∀W,gs prog 24 #[J U (n.tdiv 3),J U 4] W λe w'=>e=e6 (J U ((n.tdiv 3).emod 4))/\W=w'):=λW=>jy _ 4 W (by omega) (by omega);have l: -4611686018427387904<=n.tdiv 3/\n.tdiv 3<=4611686018427387904:=(by
  rcases Int.le_total 0 n with h|h
  · rw [hC h];omega
  · have f:n.tdiv 3= -((-n).tdiv 3):=by rw [Int.neg_tdiv];omega
    rw [f,hC (by omega)];omega)
 generalize n.emod 3=a at *;generalize (n.tdiv 3).emod 4=b at *;go_enter func20,ntmps20
 go_wp2_with (first
  |(go_at_call 24;((with_reducible refine gd (c.o _) ?_);rintro e g ⟨rfl,rfl⟩))
  |(go_at_call 24;((with_reducible refine gd (d.o _) ?_);rintro e g ⟨rfl,rfl⟩)))
 refine bodyPost_ret (v:= .agg #[J U (1+a),J U (1+b)]) (by rw [cS rfl];go_simp) rfl ?_;exact ⟨rfl,(fl _ w).alloc (es _) _⟩
def rkCells (a:RK):List fz:=[J U a.1,J U a.2]
def eh (lo a:Nat) (w:ft) (v:fz) (l:List RK):Prop:=aF lo a w v l.length (l.flatMap rkCells)
theorem eh.one {lo g:Nat} {w:ft} {v:fz} {l:List RK} (h:eh lo g w v l) (i:Nat) (e:i<l.length):
 ∃b c d,v=e8 (X ⟨b,c,Y⟩) l.length d/\lo<=b/\b<g/\w.cell? ⟨b,c+i * 2,Y⟩=X (J U l[i].1)/\w.cell? ⟨b,c+i * 2+1,Y⟩=X (J U l[i].2):=by
 obtain ⟨a,d,r,h⟩:=h;have q:l.flatMap rkCells≠[]:=by
  cases l with
  |nil=>simp at e
  |cons s l=>simp [rkCells]
 obtain ⟨b,c,p,m,o,f⟩:=h q;subst p;have j:=cC rkCells 2 (λ_=>rfl) l i e 0 (by omega);have k:=cC rkCells 2 (λ_=>rfl) l i e 1 (by omega);exact ⟨b,c,d,r,m,o,f _ _ j,by rw [Nat.add_assoc];exact f _ _ k⟩
theorem eh.kept {lo a:Nat} {w w':ft} {v:fz} {l:List RK} (h:eh lo a w v l) (k:fS lo a w w'):eh lo a w' v l:=aF.kept h k
theorem ct (u v:fz) (l m:List RK) (w:ft) (s:eh 0 w.heap.size w u l) (t:eh 0 w.heap.size w v m) (hl:l.length<=1000000) (hm:m.length<=1000000):
 gs prog 17 #[u,v] w λe w'=>e=e6 (e7 (decide (l=m)))/\Bw w w':=by
 have E:=Z s;have G:=Z t;obtain ⟨a,c,rfl,_⟩:=s;obtain ⟨O,T,rfl,_⟩:=t;by_cases hlm:l.length=m.length
 · have M:((l.length:Int)!=(m.length:Int))=false:=by simp;omega
   have a5:m.length<=l.length:=by omega
   have a4:l.length<=m.length:=by omega
   have N:=Z hlm;clear hlm;go_enter func17,ntmps17;go_wp2_with fail
   go_loopw [5] (λi wr=>∃k:Nat,k<=l.length/\i=J U k/\Hid (l.take k=m.take k)/\Bw w wr) (λi _=>l.length - (intOf i).toNat)
   case atStart=>exact ⟨0,g8 _,rfl,rfl,fl _ _⟩
   case round=>
    obtain ⟨k,hk,rfl,j,d⟩:=hrel;by_cases hlt:k<l.length
    · have r:k<m.length:=by omega
      obtain ⟨b,a6,V,f,_,a0,H,c1⟩:=(eh.kept E.o (aY d (es _))).one k hlt;cases f;obtain ⟨R,a7,W,f,_,a1,I,L⟩:=(eh.kept G.o (aY d (es _))).one k r;cases f;have a3:(k:Int)<(m.length:Int):=by omega
      have o:Hid (l.take (k+1)=l.take k++[l[k]]/\m.take (k+1)=m.take k++[m[k]]):=⟨fy hlt,fy r⟩;have D:Hid (l=m->l[k]=m[k]):=λh=>by subst h;rfl
      generalize l[k]=p at *;generalize m[k]=q at *;obtain ⟨x,y⟩:=p;obtain ⟨z,A⟩:=q;dsimp only at H c1 I L;have a2:b<wr.heap.size:=by have:=d.size;omega
      by_cases hpq:x=z/\y=A
      · obtain ⟨rfl,rfl⟩:=hpq;go_wp2_with fail
        go_region;go_wp2_with fail
        go_roundw
        case rel=>exact ⟨k+1,by omega,by go_num,by unfold Hid;rw [o.o.1,o.o.2,j.o],d.drew⟩
        case measure=>simp [intOf];omega
      · have g:Hid (l≠m):=λh=>hpq (Prod.mk.inj (D h));by_cases h1:x=z
        · have h2:¬y=A:=λh=>hpq ⟨h1,h⟩;subst h1;clear hpq;go_wp2_with fail
          go_region;go_wp2_with fail
          go_ret;exact ⟨ap (by symm;exact decide_eq_false g.o),d.drew⟩
        · clear hpq;go_wp2_with fail
          go_region;go_wp2_with fail
          go_ret;exact ⟨ap (by symm;exact decide_eq_false g.o),d.drew⟩
    · have C:Hid (l=m):=by have:=j.o;rw [gi (by omega),gi (by omega)] at this;exact this
      go_wp2_with fail
      go_ret;exact ⟨ap (by symm;exact decide_eq_true C.o),d⟩
 · have M:((l.length:Int)!=(m.length:Int))=true:=by simp;omega
   go_enter func17,ntmps17;go_wp2_with fail
   go_ret;exact ⟨ap (by symm;exact decide_eq_false (λh=>hlm (by rw [h]))),fl _ _⟩
theorem AN:(prog.info? 123).map (λi=>(i.zero,i.size,i.bytes))=X (X (.agg #[.string ⟨#[]⟩, .string ⟨#[]⟩, .string ⟨#[]⟩,e8 Y 0 0]),4,72):=by kernel_rfl
theorem zv:(prog.info? 120).map (λi=>(i.zero,i.size,i.bytes))=X (X (.agg #[J ej 0, .string ⟨#[]⟩]),2,24):=by kernel_rfl
theorem i36:(prog.info? 36).map (λi=>(i.zero,i.size,i.bytes))=X (X (.agg #[J U 0,J U 0]),2,16):=by kernel_rfl
theorem vK (v:fz) (n:Nat) (f:List fz) (w:ft) (h:aF 0 w.heap.size w v n f) (g:f.length=n * 4) (i:∀u∈f,u.oneCell'=true) (V:n<=1000000):
 gs prog 106 #[v] w λe w'=>∃d,e=e6 d/\w'.ownsRow w.heap.size 123 4 d n f/\Bw w w':=by
 have z:=Z h;obtain ⟨a,c,rfl,h⟩:=h;have qn:∀(w:ft) (a:Option Addr) (n c:Nat),(binOp .eql 60 (e8 a n c) (e8 Y 0 0)).run prog w= .ok (e7 a.isNone) w:=λw a n c=>gQ w 60 _ a n c 0 0 underlying60;cases a with
 |none=>
  have H:f=[]:=by
   rcases f with _|⟨x,f⟩
   · rfl
   · obtain ⟨b,W,C,_⟩:=h (by simp);cases C
  subst H;have G:n=0:=by simp at g;omega
  subst G;clear h i g;go_enter func106,ntmps106;go_wp2_with fail
  go_ret;exact ⟨_,rfl,g9 _ _ _ _,fl _ _⟩
 |some a=>
  clear h;obtain ⟨N,D,I,L,M⟩:=info_parts AN;have s:=Z g;have q:=Z i;have A:Hid (∀o,aF 0 (w.alloc o).heap.size (w.alloc o) (e8 (X a) n c) n f):=λo=>(z.o.kept (λk _ E=>fp w o k E)).mono (es _) (by simp);have y:Hid ((w.alloc (e9 #[] 123)).ownsRow w.heap.size 123 4 (e8 (X ⟨w.heap.size,0,Y⟩) 0 0) 0 []):=df (eQ w _) (es _);clear g i;go_enter func106,ntmps106;go_wp2_with (at_builtin;refine aB _ rfl _ _ 60 rfl w.heap.size 123 N (.agg #[.string ⟨#[]⟩, .string ⟨#[]⟩, .string ⟨#[]⟩,e8 Y 0 0]) 4 72 underlying60 D I L M rfl (by decide) w.heap.size 0 0 [] rfl y.o _ _ n f rfl (A.o _) s.o q.o (by unfold maxLen;omega) (by omega) (by simp) ?_;intro O R w1 p l T;have t:=Z p;have r:=Z l;clear p l)
  go_ret;refine ⟨_,rfl,?_,?_⟩
  · have:=t.o;rw [hi,ht] at this;exact this
  · exact ((fl _ w).alloc (es _) _).grown r.o (by simp) (λj m=>by injection m with m;omega)
theorem vJ (v:fz) (n:Nat) (f:List fz) (w:ft) (h:aF 0 w.heap.size w v n f) (g:f.length=n * 2) (i:∀u∈f,u.oneCell'=true) (V:n<=1000000):
 gs prog 107 #[v] w λe w'=>∃d,e=e6 d/\w'.ownsRow w.heap.size 120 2 d n f/\Bw w w':=by
 have z:=Z h;obtain ⟨a,c,rfl,h⟩:=h;have qn:∀(w:ft) (a:Option Addr) (n c:Nat),(binOp .eql 121 (e8 a n c) (e8 Y 0 0)).run prog w= .ok (e7 a.isNone) w:=λw a n c=>gQ w 121 _ a n c 0 0 underlying121;cases a with
 |none=>
  have H:f=[]:=by
   rcases f with _|⟨x,f⟩
   · rfl
   · obtain ⟨b,W,C,_⟩:=h (by simp);cases C
  subst H;have G:n=0:=by simp at g;omega
  subst G;clear h i g;go_enter func107,ntmps107;go_wp2_with fail
  go_ret;exact ⟨_,rfl,g9 _ _ _ _,fl _ _⟩
 |some a=>
  clear h;obtain ⟨N,D,I,L,M⟩:=info_parts zv;have s:=Z g;have q:=Z i;have A:Hid (∀o,aF 0 (w.alloc o).heap.size (w.alloc o) (e8 (X a) n c) n f):=λo=>(z.o.kept (λk _ E=>fp w o k E)).mono (es _) (by simp);have y:Hid ((w.alloc (e9 #[] 120)).ownsRow w.heap.size 120 2 (e8 (X ⟨w.heap.size,0,Y⟩) 0 0) 0 []):=df (eQ w _) (es _);clear g i;go_enter func107,ntmps107;go_wp2_with (at_builtin;refine aB _ rfl _ _ 121 rfl w.heap.size 120 N (.agg #[J ej 0, .string ⟨#[]⟩]) 2 24 underlying121 D I L M rfl (by decide) w.heap.size 0 0 [] rfl y.o _ _ n f rfl (A.o _) s.o q.o (by unfold maxLen;omega) (by omega) (by simp) ?_;intro O R w1 p l T;have t:=Z p;have r:=Z l;clear p l)
  go_ret;refine ⟨_,rfl,?_,?_⟩
  · have:=t.o;rw [hi,ht] at this;exact this
  · exact ((fl _ w).alloc (es _) _).grown r.o (by simp) (λj m=>by injection m with m;omega)
theorem yb (v:fz) (n:Nat) (f:List fz) (w:ft) (h:aF 0 w.heap.size w v n f) (g:f.length=n * 2) (i:∀u∈f,u.oneCell'=true) (V:n<=1000000):
 gs prog 52 #[v] w λe w'=>∃d,e=e6 d/\w'.ownsRow w.heap.size 36 2 d n f/\Bw w w':=by
 have z:=Z h;obtain ⟨a,c,rfl,h⟩:=h;have qn:∀(w:ft) (a:Option Addr) (n c:Nat),(binOp .eql 52 (e8 a n c) (e8 Y 0 0)).run prog w= .ok (e7 a.isNone) w:=λw a n c=>gQ w 52 _ a n c 0 0 underlying52;cases a with
 |none=>
  have H:f=[]:=by
   rcases f with _|⟨x,f⟩
   · rfl
   · obtain ⟨b,W,C,_⟩:=h (by simp);cases C
  subst H;have G:n=0:=by simp at g;omega
  subst G;clear h i g;go_enter func52,ntmps52;go_wp2_with fail
  go_ret;exact ⟨_,rfl,g9 _ _ _ _,fl _ _⟩
 |some a=>
  clear h;obtain ⟨N,D,I,L,M⟩:=info_parts i36;have s:=Z g;have q:=Z i;have A:Hid (∀o,aF 0 (w.alloc o).heap.size (w.alloc o) (e8 (X a) n c) n f):=λo=>(z.o.kept (λk _ E=>fp w o k E)).mono (es _) (by simp);have y:Hid ((w.alloc (e9 #[] 36)).ownsRow w.heap.size 36 2 (e8 (X ⟨w.heap.size,0,Y⟩) 0 0) 0 []):=df (eQ w _) (es _);clear g i;go_enter func52,ntmps52;go_wp2_with (at_builtin;refine aB _ rfl _ _ 52 rfl w.heap.size 36 N (.agg #[J U 0,J U 0]) 2 16 underlying52 D I L M rfl (by decide) w.heap.size 0 0 [] rfl y.o _ _ n f rfl (A.o _) s.o q.o (by unfold maxLen;omega) (by omega) (by simp) ?_;intro O R w1 p l T;have t:=Z p;have r:=Z l;clear p l)
  go_ret;refine ⟨_,rfl,?_,?_⟩
  · have:=t.o;rw [hi,ht] at this;exact this
  · exact ((fl _ w).alloc (es _) _).grown r.o (by simp) (λj m=>by injection m with m;omega)
theorem vm (ps:List (af×fz)):∀(m i:Nat) (u:fz) (q:af×fz) (a:m<ps.length),i<4->(fieldCells ps[m]).set i u=fieldCells q->(ps.flatMap fieldCells).set (m * 4+i) u=(ps.set m q).flatMap fieldCells:=by
 induction ps with
 |nil=>intro m i u q a;simp at a
 |cons p ps ih=>
  intro m i u q a d b;cases m with
  |zero=> simp only [List.getElem_cons_zero] at b;rw [gt,List.set_append_left _ _ (by simp [fieldCells];omega),Nat.zero_mul,hi,b];rfl
  |succ m=>
   simp only [List.getElem_cons_succ] at b;have c:(fieldCells p).length=4:=by simp [fieldCells]
   rw [gt,List.set_append_right _ _ (by rw [c];omega),c,show (m+1) * 4+i - 4=m * 4+i from by omega,ih m i u q (by simpa using a) d b];rfl
theorem vp (ps:List (af×fz)):∀(m i:Nat) (a:m<ps.length),i<4->(ps.flatMap fieldCells)[m * 4+i]? =(fieldCells ps[m])[i]? :=λm i a b=>by
 rw [cC fieldCells 4 (λ_=>rfl) ps m a i b]
theorem oW (ps:List (af×fz)):∀u∈ps.flatMap fieldCells,(∀p∈ps,p.2.oneCell'=true)->u.oneCell'=true:=by
 intro u a c;obtain ⟨p,b,a⟩:=List.mem_flatMap.1 a;simp only [fieldCells,List.mem_cons,List.not_mem_nil,or_false] at a;rcases a with rfl|rfl|rfl|rfl
 · rfl
 · rfl
 · rfl
 · exact c p b
theorem rX (b:List cr):∀u∈b.flatMap subCells,u.oneCell'=true:=by
 intro u a;obtain ⟨p,c,a⟩:=List.mem_flatMap.1 a;simp only [subCells,List.mem_cons,List.not_mem_nil,or_false] at a;rcases a with rfl|rfl<;>rfl
theorem vn (ps:List (af×fz)):(ps.flatMap fieldCells).length=ps.length * 4:=by
 induction ps with
 |nil=>rfl
 |cons p ps ih=>rw [gt,hN,ih];simp [fieldCells];omega
theorem vo (a:List cr):(a.flatMap subCells).length=a.length * 2:=by
 induction a with
 |nil=>rfl
 |cons p ps ih=>rw [gt,hN,ih];simp [subCells];omega
structure ge (W0 L wc:Nat) (d:fz) (fs:List af) (k:Nat) (wr:ft):Prop where
 ex:∃ps:List (af×fz),ps.map (·.1)=fs/\wr.ownsRow L 123 4 d fs.length (ps.flatMap fieldCells)/\
  (∀j (hj:j<ps.length),j<k->aA wc wr.heap.size wr ps[j].2 ps[j].1.subs)/\(∀j (hj:j<ps.length),k<=j->aA 0 W0 wr ps[j].2 ps[j].1.subs)
 blk:∀g,d.ownBlock=some g->L<=g/\g<wc
 big:W0<=L/\L<=wc/\wc<=wr.heap.size
theorem ge.start {w wc:ft} {L:Nat} {d:fz} {ps:List (af×fz)} {a:List af} (k:ps.map (·.1)=a) (l:∀p∈ps,aA 0 w.heap.size w p.2 p.1.subs) (e:w.heap.size<=L) (f:L<=wc.heap.size) (h:Bw w wc) (c:wc.ownsRow L 123 4 d a.length (ps.flatMap fieldCells)):
 ge w.heap.size L wc.heap.size d a 0 wc:=by
 refine ⟨⟨ps,k,c,λj b m=>by omega,λj b _=>(l _ (gz b)).kept (aY h (es _))⟩,λg i=>c.lt g i,e,f,es _⟩
theorem ge.far {a L wc k:Nat} {d:fz} {l:List af} {wr w':ft} (h:ge a L wc d l k wr) (f:∀q,q<a∨L<=q->q<wr.heap.size->w'.heap[q]? =wr.heap[q]?) (s:wr.heap.size<=w'.heap.size):ge a L wc d l k w':=by
 obtain ⟨ps,o,b,p,r⟩:=h.ex;have m:=h.big;refine ⟨⟨ps,o,ah b (λq g=>f q (.inr (b.lt q g).1) (b.lt q g).2),λj c e=>((p j c e).kept (λq g i=>f q (.inr (by omega)) i)).mono (es _) s,λj c e=>(r j c e).kept (λq _ i=>f q (.inl i) (by omega))⟩,h.blk,m.1,m.2.1,by omega⟩
theorem ge.form {c L wc k:Nat} {d:fz} {b:List af} {wr:ft} (h:ge c L wc d b k wr) (i:k<b.length):∃g a,d=e8 (X ⟨g,0,Y⟩) b.length a:=by
 obtain ⟨l,j,f,_⟩:=h.ex;obtain ⟨g,a,e,_⟩:=World.ownsRow.form f (by omega);exact ⟨g,a,e⟩
theorem ge.cell {b L wc k:Nat} {g j:Nat} {a:List af} {wr:ft} (h:ge b L wc (e8 (X ⟨g,0,Y⟩) a.length j) a k wr) (p:k<a.length):
 ∃c,wr.cell? ⟨g,k * 4+3,Y⟩=X c/\aA 0 b wr c a[k].subs/\∀i,wr.frozen? ⟨g,i,Y⟩=false:=by
 obtain ⟨ps,d,e,o,m⟩:=h.ex;have q:ps.length=a.length:=by rw [<- d];simp
 have f:k<ps.length:=by omega
 have l:ps[k].1=a[k]:=by simp [<- d]
 refine ⟨ps[k].2,?_,by rw [<- l];exact m k f (es _),λi=>e.frozenAt i⟩;rw [e.cellAt (k * 4+3) (by omega),vp ps k 3 f (by omega)];rfl
theorem ge.put {o L wc k:Nat} {d a:fz} {b:List af} {wr c:ft} (h:ge o L wc d b k wr) (s:k<b.length) (i:Bw wr c) (N:c.ownsRow wr.heap.size 120 2 a b[k].subs.length (b[k].subs.flatMap subCells)) {g v:Nat} (r:d=e8 (X ⟨g,0,Y⟩) b.length v):
 ge o L wc d b (k+1) (c.setCell ⟨g,k * 4+3,Y⟩ a):=by
 obtain ⟨ps,m,p,z,A⟩:=h.ex;have t:k<ps.length:=by rw [<- m] at s;simpa using s
 obtain ⟨T,R⟩:=h.blk g (by rw [r];rfl);have O:=i.size;obtain ⟨E,G,H⟩:=h.big;have w:ps[k].1=b[k]:=by simp [<- m]
 have y:c.ownsRow L 123 4 d b.length (ps.flatMap fieldCells):=ah p (λq l=>i.block q (p.lt q l).2);have I:aA wc (c.setCell ⟨g,k * 4+3,Y⟩ a).heap.size (c.setCell ⟨g,k * 4+3,Y⟩ a) a b[k].subs:=by have C:aA wr.heap.size c.heap.size c a b[k].subs:=bf N;have D:=C.kept (w':=c.setCell ⟨g,k * 4+3,Y⟩ a) (λq l _=>fr _ _ _ _ (by simp;omega));exact D.mono H (by rw [gq];exact es _)
 refine ⟨⟨ps.set k (ps[k].1,a),?_,?_,λj f M=>?_,λj f M=>?_⟩,h.blk,E,G,by rw [gq];omega⟩
 · rw [List.map_set, <- m];have:ps[k].1=(List.map (λx:af×fz=>x.1) ps)[k]'(by simpa using t):=by simp
   rw [this,List.set_getElem_self]
 · subst r;have:=(y.stored (k * 4+3) a).1;rw [vm ps k 3 a (ps[k].1,a) t (by omega) (by simp [fieldCells])] at this;exact this
 · rw [List.length_set] at f;simp only [List.getElem_set];split
   · rename_i e;rw [w];exact I
   · rename_i e;refine ((z j f (by omega)).kept (λq l u=>?_)).mono (es _) (by rw [gq];exact O);rw [fr _ _ _ _ (by simp;omega)];exact i.block q u
 · rw [List.length_set] at f;simp only [List.getElem_set];rw [if_neg (by omega)];refine (A j f (by omega)).kept (λq l u=>?_);rw [fr _ _ _ _ (by simp;omega)];exact i.block q (by omega)
theorem ge.done {c L wc k:Nat} {d:fz} {a:List af} {wr:ft} (h:ge c L wc d a k wr) (m:a.length<=k):ai L wr.heap.size wr d a:=by
 obtain ⟨ps,b,e,f,_⟩:=h.ex;have o:ps.length=a.length:=by rw [<- b];simp
 have g:=h.big;refine ⟨ps,b,λp l=>?_,bf e⟩;obtain ⟨j,i,rfl⟩:=List.getElem_of_mem l;exact (f j i (by omega)).mono g.2.1 (es _)
theorem yv {lo b:Nat} {w:ft} {v:fz} {d:List cr} (h:aA lo b w v d):v.oneCell'=true:=by
 obtain ⟨a,c,rfl,_⟩:=h;rfl
def rH (B:Nat) (a b:UInt8) (d:fz) (w:ft):Prop:=w.heap[B]? =X (e9 #[J ej a.toNat,J ej b.toNat,d] 62 (0,0))/\w.heap[B+1]? =X (e9 #[J ej 0,J ej 0,e8 Y 0 0] 62 (0,0))
theorem rH.far {B:Nat} {a b:UInt8} {d:fz} {w w':ft} (h:rH B a b d w) (c:w'.heap[B]? =w.heap[B]?) (e:w'.heap[B+1]? =w.heap[B+1]?):rH B a b d w':=⟨c.trans h.1,e.trans h.2⟩
theorem xe (v:fz) (r:az) (w:ft) (h:ef 0 w.heap.size w v r) (hn:r.fields.length<=1000000) (hs:∀f∈r.fields,f.subs.length<=1000000):
 gs prog 60 #[v] w λe w'=>∃v',e=e6 v'/\ef w.heap.size w'.heap.size w' v' r/\Bw w w':=by
 obtain ⟨m,o,a⟩:=r;obtain ⟨x,rfl,hx⟩:=h;obtain ⟨ps,T,a5,a4⟩:=hx;dsimp only at T hn hs a4;unfold fE;dsimp only;obtain ⟨c,N⟩:=Qe ((w.alloc (e9 #[J ej m.toNat,J ej o.toNat,x] 62)).alloc (e9 #[J ej 0,J ej 0,e8 Y 0 0] 62));have R:Bw w c:=by rw [<- N];exact ((fl _ w).alloc (es _) _).alloc (by simp) _
 have av:c.heap.size=w.heap.size+2:=by rw [<- N];simp
 have hA:rH w.heap.size m o x c:=by
  refine ⟨?_,?_⟩
  · rw [<- N,fp _ _ _ (by simp)];exact eQ w _
  · rw [<- N];have:=eQ (w.alloc (e9 #[J ej m.toNat,J ej o.toNat,x] 62)) (e9 #[J ej 0,J ej 0,e8 Y 0 0] 62);rwa [gb] at this
 have au:aF 0 c.heap.size c x a.length (ps.flatMap fieldCells):=(a4.kept (aY R (es _))).mono (es _) R.size;have al:ps.length=a.length:=by rw [<- T];simp
 have HC:=Z (vK x a.length (ps.flatMap fieldCells) c au (by rw [vn,al]) (λu hu=>oW ps u hu λp hp=>yv (a5 p hp)) (by omega));have b0:=Z T;have b2:=Z a5;have E:=Z R;have a2:c.cell? ⟨w.heap.size,2,Y⟩=X x:=by rw [aa hA.1];rfl
 have HA:=Z hA;have b1:=Z hs;have A:=Z av;clear au a4 a5 R al hA T hs av;go_enter func60,ntmps60;go_wp2_with (go_at_call 106;((with_reducible refine gd HC.o ?_);rintro e wc ⟨d,rfl,hr,O⟩;obtain ⟨l,b,rfl⟩:=aM hr;have I:rH w.heap.size m o x wc:=HA.o.far (O.block _ (by rw [A.o];omega)) (O.block _ (by rw [A.o];omega));have c2:wc.cell? ⟨w.heap.size,2,Y⟩=X x:=(aa I.1 2).trans rfl;have f2:=ab I.1 2;have HR:=Z hr;have W:=Z O;have a6:=Z I;clear hr O I))
 have hO:=ge.start b0.o b2.o (L:=c.heap.size) E.size W.size (btr E.o W.o E.size) HR.o
 have a8:ge w.heap.size c.heap.size wc.heap.size (e8 l a.length b) a 0 (wc.setCell ⟨w.heap.size,2,Y⟩ (e8 l a.length b)):=
  hO.far (λq hq _=>fr _ _ _ _ (by have:=A.o;simp;omega)) (by rw [gq];exact es _)
 have a9:rH w.heap.size m o (e8 l a.length b) (wc.setCell ⟨w.heap.size,2,Y⟩ (e8 l a.length b)):=by
  refine ⟨?_,?_⟩
  · rw [am a6.o.1];rfl
  · rw [fr _ _ _ _ (by simp)];exact a6.o.2
 have a7:Bw w (wc.setCell ⟨w.heap.size,2,Y⟩ (e8 l a.length b)):=(btr E.o W.o E.o.size).setCell (by simp) _;have aT:=Z a8;have b3:=Z a9;have ax:=Z a7;clear hO a8 a9 a7;go_loopw [3,11] (λ_a i wr=>∃k:Nat,k<=a.length/\i=J U k/\Hid (ge w.heap.size c.heap.size wc.heap.size (e8 l a.length b) a k wr)/\Hid (rH w.heap.size m o (e8 l a.length b) wr)/\Hid (Bw w wr)) (λ_ i _=>a.length - (intOf i).toNat)
 case atStart=>exact ⟨0,g8 _,rfl,aT,b3,ax⟩
 case round=>
  obtain ⟨k,hk,rfl,z,j,D⟩:=hrel;have e2:wr.cell? ⟨w.heap.size,2,Y⟩=X (e8 l a.length b):=by rw [aa j.o.1];rfl
  by_cases hlt:k<a.length
  · obtain ⟨g,b6,he⟩:=z.form hlt;cases he;obtain ⟨G,ac,ao,ad⟩:=z.cell hlt;have b5:w.heap.size+2<=g/\g<wr.heap.size:=by have:=z.o.blk g rfl;have:=z.o.big;have:=A.o;omega
    have aC:=Z (vJ G a[k].subs.length (a[k].subs.flatMap subCells) wr.drew ((show aA 0 w.heap.size wr.drew G a[k].subs from ao).mono (es _) D.size) (vo _) (rX _) (b1 _ (gz hlt)));have M:wr.drew.cell? ⟨w.heap.size,2,Y⟩=X (e8 (X ⟨g,0,Y⟩) a.length b)/\wr.drew.cell? ⟨g,k * 4+3,Y⟩=X G:=⟨e2,ac⟩;have b7:(k:Int)<(a.length:Int):=by omega
    have aS:=Z (ad (k * 4+3));clear ao ad ac e2;go_wp2_with fail
    refine wT (λw'=>w'.cell? ⟨w.heap.size,2,Y⟩=X (e8 (X ⟨g,0,Y⟩) a.length b)/\w'.cell? ⟨g,k * 4+3,Y⟩=X G) 12 ?_;refine Qb [0,2,3,5,1,4,6,7,8] M (λw' h=>h) ?_;refine Dp 9 λK s=>?_;go_simp;go_at_call 107;refine aC.mono ?_;rintro e y ⟨dd,rfl,a3,t⟩;obtain ⟨a0,a1,rfl⟩:=aM a3;have C:Bw wr y:=⟨t.os,t.tape,t.output,t.size,t.block⟩;have H:y.cell? ⟨w.heap.size,2,Y⟩=X (e8 (X ⟨g,0,Y⟩) a.length b)/\y.cell? ⟨g,k * 4+3,Y⟩=X G:=⟨fk t _ _ M.1,fk t _ _ M.2⟩;refine s _ _ (λ_=>H) ?_;clear s K;have c9:=H.2;have f9:y.frozen? ⟨g,k * 4+3,Y⟩=false:=by rw [(aE C).2 _ _ b5.2];exact aS.o
    refine Ds 10 H ?_;refine Qb [11] H (λw' h=>h) ?_
    refine Dl 12 ?_;have HN:Hid (ge w.heap.size c.heap.size wc.heap.size (e8 (X ⟨g,0,Y⟩) a.length b) a (k+1) (y.setCell ⟨g,k * 4+3,Y⟩ (.slice a0 a[k].subs.length a1))):=z.put hlt C a3 rfl;have b4:Hid (rH w.heap.size m o (e8 (X ⟨g,0,Y⟩) a.length b) (y.setCell ⟨g,k * 4+3,Y⟩ (.slice a0 a[k].subs.length a1))):=by
     have b8:=D.size;refine j.far ?_ ?_
     · rw [fr _ _ _ _ (by simp;omega)];exact C.block _ (by omega)
     · rw [fr _ _ _ _ (by simp;omega)];exact C.block _ (by omega)
    have ay:Hid (Bw w (y.setCell ⟨g,k * 4+3,Y⟩ (.slice a0 a[k].subs.length a1))):=(btr D.o C D.o.size).setCell (by simp;omega) _;clear M H c9 f9 a3 t C;go_wp2_with fail
    go_roundw
    case rel=>exact ⟨k+1,by omega,by go_num,HN,b4,ay⟩
    case measure=>simp [intOf];omega
  · have c0:wr.cell? ⟨w.heap.size,0,Y⟩=X (J ej m.toNat):=by rw [aa j.o.1];rfl
    have c1:wr.cell? ⟨w.heap.size,1,Y⟩=X (J ej o.toNat):=by rw [aa j.o.1];rfl
    have d0:wr.cell? ⟨w.heap.size+1,0,Y⟩=X (J ej 0):=by rw [aa j.o.2];rfl
    have d1:wr.cell? ⟨w.heap.size+1,1,Y⟩=X (J ej 0):=by rw [aa j.o.2];rfl
    have d2:wr.cell? ⟨w.heap.size+1,2,Y⟩=X (e8 Y 0 0):=by rw [aa j.o.2];rfl
    have g0:=ab j.2 0;have g1:=ab j.2 1;have g2:=ab j.2 2;go_wp2_with fail
    refine bodyPost_ret (v:= .agg #[J ej m.toNat,J ej o.toNat,e8 l a.length b]) (by rw [cS rfl];go_simp) rfl ?_;refine ⟨_,rfl,⟨_,rfl,?_⟩,((D.o.setCell (by simp) _).setCell (by simp) _).setCell (by simp) _⟩;refine ((z.o.done (by omega)).kept (λq hq _=>?_)).mono (by have:=A.o;omega) (by simp);have hz:=A.o;rw [fr _ _ _ _ (by simp;omega),fr _ _ _ _ (by simp;omega),fr _ _ _ _ (by simp;omega)]
theorem vz (u v:fz) (l m:List cr) (w:ft) (y:aA 0 w.heap.size w u l) (z:aA 0 w.heap.size w v m) (hl:l.length<=1000000) (hm:m.length<=1000000):
 gs prog 105 #[u,v] w λe w'=>e=e6 (e7 (decide (l=m)))/\Bw w w':=by
 have G:=Z y;have H:=Z z;obtain ⟨a,c,rfl,_⟩:=y;obtain ⟨R,V,rfl,_⟩:=z;by_cases hlm:l.length=m.length
 · have N:((l.length:Int)!=(m.length:Int))=false:=by simp;omega
   have a7:m.length<=l.length:=by omega
   have a6:l.length<=m.length:=by omega
   have O:=Z hlm;clear hlm;go_enter func105,ntmps105;go_wp2_with fail
   go_loopw [5,13] (λ_a i wr=>∃k:Nat,k<=l.length/\i=J U k/\Hid (l.take k=m.take k)/\Bw w wr) (λ_ i _=>l.length - (intOf i).toNat)
   case atStart=>exact ⟨0,g8 _,rfl,rfl,fl _ _⟩
   case round=>
    obtain ⟨k,hk,rfl,r,d⟩:=hrel;by_cases hlt:k<l.length
    · have x:k<m.length:=by omega
      obtain ⟨b,a8,W,f,_,a2,I,c1⟩:=(aA.kept G.o (aY d (es _))).sub k hlt;cases f;obtain ⟨T,a9,a0,f,_,a3,L,M⟩:=(aA.kept H.o (aY d (es _))).sub k x;cases f;have a5:(k:Int)<(m.length:Int):=by omega
      have s:Hid (l.take (k+1)=l.take k++[l[k]]/\m.take (k+1)=m.take k++[m[k]]):=⟨fy hlt,fy x⟩;have E:Hid (l=m->l[k]=m[k]):=λh=>by subst h;rfl
      generalize l[k]=p at *;generalize m[k]=q at *;obtain ⟨g,A⟩:=p;obtain ⟨j,C⟩:=q;dsimp only at I c1 L M;have a4:b<wr.heap.size:=by have:=d.size;omega
      by_cases hpq:g=j/\A=C
      · obtain ⟨rfl,rfl⟩:=hpq;go_wp2_with fail
        go_region;go_wp2_with fail
        go_roundw
        case rel=>exact ⟨k+1,by omega,by go_num,by unfold Hid;rw [s.o.1,s.o.2,r.o],d.drew⟩
        case measure=>simp [intOf];omega
      · have o:Hid (l≠m):=λh=>hpq (by injection E.o h with h1 t;exact ⟨h1,t⟩);by_cases h1:g=j
        · have t:¬A=C:=λh=>hpq ⟨h1,h⟩;subst h1;clear hpq;go_wp2_with fail
          go_region;go_wp2_with fail
          go_ret;exact ⟨ap (by symm;exact decide_eq_false o.o),d.drew⟩
        · have a1:¬(g.toNat=j.toNat):=λe=>h1 (UInt8.toNat_inj.1 e);clear hpq;go_wp2_with fail
          go_region;go_wp2_with fail
          go_ret;exact ⟨ap (by symm;exact decide_eq_false o.o),d.drew⟩
    · have D:Hid (l=m):=by have:=r.o;rw [gi (by omega),gi (by omega)] at this;exact this
      go_wp2_with fail
      go_ret;exact ⟨ap (by symm;exact decide_eq_true D.o),d⟩
 · have N:((l.length:Int)!=(m.length:Int))=true:=by simp;omega
   go_enter func105,ntmps105;go_wp2_with fail
   go_ret;exact ⟨ap (by symm;exact decide_eq_false (λh=>hlm (by rw [h]))),fl _ _⟩
theorem uI (f g:af) (d u:fz) (w:ft) (r:aA 0 w.heap.size w d f.subs) (s:aA 0 w.heap.size w u g.subs) (v:f.subs.length<=1000000) (x:g.subs.length<=1000000):
 gs prog 104 #[.agg #[S f.tag,S f.ind,S f.data,d], .agg #[S g.tag,S g.ind,S g.data,u]] w λe w'=>e=e6 (e7 (decide (f=g)))/\Bw w w':=by
 obtain ⟨t1,k,p,l⟩:=f;obtain ⟨t2,y,z,m⟩:=g;dsimp only at r s v x ⊢;have D:=Z r;have E:=Z s;obtain ⟨a,c,rfl,_⟩:=r;obtain ⟨G,H,rfl,_⟩:=s;have b:∀o i,Bw w ((w.alloc o).alloc i):=λo i=>((fl _ w).alloc (es _) o).alloc (by simp) i;by_cases e1:t1=t2
 · subst e1;by_cases e2:k=y
   · subst e2;by_cases e3:p=z
     · subst e3;have A:=Z (λo i=>vz (e8 a l.length c) (e8 G m.length H) l m ((w.alloc o).alloc i) ((D.kept (aY (b o i) (es _))).mono (es _) (b o i).size) ((E.kept (aY (b o i) (es _))).mono (es _) (b o i).size) v x);have C:Hid (decide ((⟨t1,k,p,l⟩:af)=⟨t1,k,p,m⟩)=decide (l=m)):=by unfold Hid;simp
       have t:=Z b;clear b;generalize decide (l=m)=q at *;go_enter func104,ntmps104;go_wp2_with (go_at_call 105;((with_reducible refine gd (A.o _ _) ?_);rintro e w' ⟨rfl,I⟩))
       all_goals go_ret
       all_goals exact ⟨ap C.symm,(t _ _).trans (I.mono (t _ _).size)⟩
     · have j:(p==z)=false:=by simpa using e3
       clear e3;go_enter func104,ntmps104;go_wp2_with fail
       go_ret;exact ⟨ap (by symm;exact decide_eq_false (λh=>by injection h with _ _ h;rw [h] at j;simp at j)),b _ _⟩
   · have j:(k==y)=false:=by simpa using e2
     clear e2;go_enter func104,ntmps104;go_wp2_with fail
     go_ret;exact ⟨ap (by symm;exact decide_eq_false (λh=>by injection h with _ h;rw [h] at j;simp at j)),b _ _⟩
 · have j:(t1==t2)=false:=by simpa using e1
   clear e1;go_enter func104,ntmps104;go_wp2_with fail
   go_ret;exact ⟨ap (by symm;exact decide_eq_false (λh=>by injection h with h;rw [h] at j;simp at j)),b _ _⟩
theorem sV (u v:fz) (l m:List af) (w:ft) (L:ai 0 w.heap.size w u l) (M:ai 0 w.heap.size w v m) (hl:l.length<=1000000) (hm:m.length<=1000000) (a0:∀f∈l,f.subs.length<=1000000) (a1:∀f∈m,f.subs.length<=1000000):
 gs prog 103 #[u,v, .func (.func 104) #[] #[]] w λe w'=>e=e6 (e7 (decide (l=m)))/\Bw w w':=by
 have HU:=Z L;have HV:=Z M;have a2:=Z a0;have a3:=Z a1;obtain ⟨a,c,rfl⟩:=L.shape;obtain ⟨a',c',rfl⟩:=M.shape;clear L M a0 a1;by_cases hlm:l.length=m.length
 · have a4:((l.length:Int)!=(m.length:Int))=false:=by simp;omega
   have aC:m.length<=l.length:=by omega
   have ay:l.length<=m.length:=by omega
   have a5:=Z hlm;clear hlm;go_enter func103,ntmps103;go_wp2_with fail
   go_loopw [7,8,9,17] (λ_a _b _c i wr=>∃k:Nat,k<=l.length/\i=J U k/\Hid (l.take k=m.take k)/\Bw w wr) (λ_ _ _ i _=>l.length - (intOf i).toNat)
   case atStart=>exact ⟨0,g8 _,rfl,rfl,fl _ _⟩
   case round=>
    obtain ⟨k,hk,rfl,N,j⟩:=hrel;by_cases hlt:k<l.length
    · have G:k<m.length:=by omega
      obtain ⟨b,aS,a6,d,E,_,au,c0,c1,c2,c3,H⟩:=(ai.kept HU.o (aY j (es _))).field k hlt;cases E;obtain ⟨t,y,a7,A,E,_,av,T,V,d2,d3,I⟩:=(ai.kept HV.o (aY j (es _))).field k G;cases E;have ax:(k:Int)<(m.length:Int):=by omega
      have O:Hid (l.take (k+1)=l.take k++[l[k]]/\m.take (k+1)=m.take k++[m[k]]):=⟨fy hlt,fy G⟩;have HQ:Hid (l=m->l[k]=m[k]):=λh=>by subst h;rfl
      have D:=j.size;have a8:∀o,(wr.alloc o).cell? ⟨t,y+k * 4,Y⟩=X (S m[k].tag):=λo=>by rw [aU _ _ _ _ (by omega)];exact T
      have a9:∀o,(wr.alloc o).cell? ⟨t,y+k * 4+1,Y⟩=X (S m[k].ind):=λo=>by rw [aU _ _ _ _ (by omega)];exact V
      have ac:∀o,(wr.alloc o).cell? ⟨t,y+k * 4+2,Y⟩=X (S m[k].data):=λo=>by rw [aU _ _ _ _ (by omega)];exact d2
      have ad:∀o,(wr.alloc o).cell? ⟨t,y+k * 4+3,Y⟩=X A:=λo=>by rw [aU _ _ _ _ (by omega)];exact d3
      have s:Hid (∀o g,Bw w ((wr.alloc o).alloc g)):=λo g=>(j.alloc D o).alloc (by simp;omega) g
      have r:Hid (∀W,Bw wr W->gs prog 104 #[.agg #[S l[k].tag,S l[k].ind,S l[k].data,d], .agg #[S m[k].tag,S m[k].ind,S m[k].data,A]] W λe w'=>e=e6 (e7 (decide (l[k]=m[k])))/\Bw W w'):=λW x=>
       uI l[k] m[k] d A W (((H.mono (es _) D).kept (aY x (es _))).mono (es _) x.size) (((I.mono (es _) D).kept (aY x (es _))).mono (es _) x.size) (a2 _ (gz hlt)) (a3 _ (gz G))
      have R:Hid (∀o g,Bw wr ((wr.alloc o).alloc g)):=λo g=>((fl _ wr).alloc (es _) o).alloc (by simp) g;obtain ⟨da,dc,rfl,_⟩:=id H;obtain ⟨al,ao,rfl,_⟩:=id I;clear H I T V d2 d3;generalize hp:l[k]=p at *;generalize hq:m[k]=q at *;clear hp hq;obtain ⟨p1,p2,p3,p4⟩:=p;obtain ⟨q1,q2,q3,q4⟩:=q;dsimp only at *;by_cases hpq:(⟨p1,p2,p3,p4⟩:af)=⟨q1,q2,q3,q4⟩
      · rw [decide_eq_true hpq] at r;have z:=Z hpq;clear hpq;go_wp2_with (go_at_call 104;((with_reducible refine gd (r.o _ (R.o _ _)) ?_);rintro e w' ⟨rfl,C⟩))
        go_roundw
        case rel=>exact ⟨k+1,by omega,by go_num,by unfold Hid;rw [O.o.1,O.o.2,N.o,z.o],btr (s.o _ _) C (s.o _ _).size⟩
        case measure=>simp [intOf];omega
      · rw [decide_eq_false hpq] at r;have z:=Z hpq;clear hpq;go_wp2_with (go_at_call 104;((with_reducible refine gd (r.o _ (R.o _ _)) ?_);rintro e w' ⟨rfl,C⟩))
        go_ret;exact ⟨ap (by symm;exact decide_eq_false (λh=>z (HQ h))),btr (s _ _) C (s _ _).size⟩
    · have HE:Hid (l=m):=by have:=N.o;rw [gi (by omega),gi (by omega)] at this;exact this
      go_wp2_with fail
      go_ret;exact ⟨ap (by symm;exact decide_eq_true HE.o),j⟩
 · have a4:((l.length:Int)!=(m.length:Int))=true:=by simp;omega
   go_enter func103,ntmps103;go_wp2_with fail
   go_ret;exact ⟨ap (by symm;exact decide_eq_false (λh=>hlm (by rw [h]))),fl _ _⟩
theorem yA (u v:fz) (r s:az) (w:ft) (R:ef 0 w.heap.size w u r) (T:ef 0 w.heap.size w v s) (N:r.fields.length<=1000000) (O:s.fields.length<=1000000) (E:∀f∈r.fields,f.subs.length<=1000000) (G:∀f∈s.fields,f.subs.length<=1000000):
 gs prog 59 #[u,v] w λe w'=>e=e6 (e7 (decide (r=s)))/\Bw w w':=by
 obtain ⟨j,m,k⟩:=r;obtain ⟨z,p,l⟩:=s;obtain ⟨x,rfl,g⟩:=R;obtain ⟨y,rfl,i⟩:=T;unfold fE;dsimp only at *;have d:∀o b,Bw w ((w.alloc o).alloc b):=λo b=>((fl _ w).alloc (es _) o).alloc (by simp) b;by_cases e1:j=z
 · subst e1;by_cases e2:m=p
   · subst e2;have H:=Z (λo b=>sV x y k l ((w.alloc o).alloc b) ((g.kept (aY (d o b) (es _))).mono (es _) (d o b).size) ((i.kept (aY (d o b) (es _))).mono (es _) (d o b).size) N O E G);have I:Hid (decide ((⟨j,m,k⟩:az)=⟨j,m,l⟩)=decide (k=l)):=by unfold Hid;simp
     obtain ⟨a,c,rfl⟩:=g.shape;obtain ⟨C,D,rfl⟩:=i.shape;have A:=Z d;clear d g i E G;generalize decide (k=l)=q at *;go_enter func59,ntmps59;go_wp2_with (go_at_call 103;((with_reducible refine gd (H.o _ _) ?_);rintro e w' ⟨rfl,M⟩))
     all_goals go_ret
     all_goals exact ⟨ap I.symm,(A _ _).trans (M.mono (A _ _).size)⟩
   · have L:¬(m.toNat=p.toNat):=λe=>e2 (UInt8.toNat_inj.1 e);have t:Hid (decide ((⟨j,m,k⟩:az)=⟨j,p,l⟩)=false):=decide_eq_false (λh=>e2 (by injection h));obtain ⟨a,c,rfl⟩:=g.shape;obtain ⟨C,D,rfl⟩:=i.shape;clear e2 g i;go_enter func59,ntmps59;go_wp2_with fail
     go_ret;exact ⟨ap t.symm,d _ _⟩
 · have L:¬(j.toNat=z.toNat):=λe=>e1 (UInt8.toNat_inj.1 e);have t:Hid (decide ((⟨j,m,k⟩:az)=⟨z,p,l⟩)=false):=decide_eq_false (λh=>e1 (by injection h));obtain ⟨a,c,rfl⟩:=g.shape;obtain ⟨C,D,rfl⟩:=i.shape;clear e1 g i;go_enter func59,ntmps59;go_wp2_with fail
   go_ret;exact ⟨ap t.symm,d _ _⟩
theorem xl (w:ft):gs prog 32 #[] w λe w'=>e=e6 (em (X ⟨w.heap.size,0,Y⟩))/\w'=w.alloc (e9 #[er Y,er Y,er Y,em Y] 117):=by
 go_enter func32,ntmps32;go_wp2;go_ret;exact ⟨rfl,rfl⟩
theorem pi (b n:Nat) (w:ft) (a:w.cell? ⟨b,0,Y⟩=X (er (X n))):gs prog 57 #[em (X ⟨b,0,Y⟩)] w λe w'=>e=e6 (.tuple #[])/\w=w':=by
 have c:∀(w:ft) (r:Option Nat),(binOp .eql 113 (.map r) (er Y)).run prog w= .ok (e7 r.isNone) w:=λw r=>run_eql_map_nil w 113 _ _ r underlying113;go_enter func57,ntmps57;go_wp2;go_end0
 exact ⟨rfl,rfl⟩
theorem pj (b:Nat) (v:fz) (w:ft) (h:w.heap[b]? =X (e9 #[er Y,er Y,er Y,v] 117 (0,0))):gs prog 57 #[em (X ⟨b,0,Y⟩)] w λe w'=>e=e6 (.tuple #[])/\
 w'=((((((w.alloc (.map #[] 0)).alloc (.map #[] 0)).alloc (.map #[] 0)).setCell ⟨b,0,Y⟩ (er (X w.heap.size))).setCell ⟨b,1,Y⟩ (er (X (w.heap.size+1)))).setCell ⟨b,2,Y⟩ (er (X (w.heap.size+2)))):=by
 have d:w.cell? ⟨b,0,Y⟩=X (er Y):=by rw [aa h];rfl
 have c1:w.cell? ⟨b,1,Y⟩=X (er Y):=by rw [aa h];rfl
 have c2:w.cell? ⟨b,2,Y⟩=X (er Y):=by rw [aa h];rfl
 have j:=ab h 0;have k:=ab h 1;have l:=ab h 2;have c:=ae h;have a:(((w.alloc (.map #[] 0)).alloc (.map #[] 0)).alloc (.map #[] 0)).heap[b]? =X (e9 #[er Y,er Y,er Y,v] 117 (0,0)):=by rw [fp _ _ _ (by simp;omega),fp _ _ _ (by simp;omega),fp _ _ _ c];exact h
 have f:(((w.alloc (.map #[] 0)).alloc (.map #[] 0)).alloc (.map #[] 0)).cell? ⟨b,0,Y⟩=X (er Y):=by rw [aa a];rfl
 have g:(((w.alloc (.map #[] 0)).alloc (.map #[] 0)).alloc (.map #[] 0)).cell? ⟨b,1,Y⟩=X (er Y):=by rw [aa a];rfl
 have i:(((w.alloc (.map #[] 0)).alloc (.map #[] 0)).alloc (.map #[] 0)).cell? ⟨b,2,Y⟩=X (er Y):=by rw [aa a];rfl
 have m:=ab a 0;have o:=ab a 1;have p:=ab a 2;clear a;clear h;have s:∀(w:ft) (r:Option Nat),(binOp .eql 113 (.map r) (er Y)).run prog w= .ok (e7 r.isNone) w:=λw r=>run_eql_map_nil w 113 _ _ r underlying113;have q:= @run_makeMap prog;go_enter func57,ntmps57;go_wp2;go_end0
 exact ⟨rfl,rfl⟩
end
section
open Go.RowKit Go.Maps Go.Shelf
section
variable {P:hJ} {kt:hd} {K:Type} [DecidableEq K] {B:ee P kt K}
def cj (B:ee P kt K) (w:ft) (mv:Option Nat) (l:List (K×fz)):Prop:=match mv with
 |none=>l=[]
 |some b=>ak B w b l
theorem cj.block {w w':ft} {mv:Option Nat} {l:List (K×fz)} (h:cj B w mv l) (a:∀b,mv=X b->w'.heap[b]? =w.heap[b]?):cj B w' mv l:=by
 cases mv with
 |none=>exact h
 |some b=>exact ak.block h (a b rfl)
theorem cj.look_ok {w:ft} {mv:Option Nat} {l:List (K×fz)} (h:cj B w mv l) {t e:hd} (c:P.underlying t=X (.map kt e)) {z:fz} (d:∀u:ft,(zeroValue e).run P u= .ok z u) (k:K) (a:B.ok k):
 (gO t (.map mv) (B.kv k) true).run P w= .ok (.tuple #[(lookL l k).getD z,e7 (lookL l k).isSome]) w:=by
 cases mv with
 |none=> have h:l=[]:=h;subst h;rw [Maps.look_nil true B.keyed c (d w) (B.key k a)];rfl
 |some b=>exact ak.look_ok h c (d w) k a
theorem cj.look {w:ft} {mv:Option Nat} {l:List (K×fz)} (h:cj B w mv l) {t e:hd} (c:P.underlying t=X (.map kt e)) {z:fz} (d:∀u:ft,(zeroValue e).run P u= .ok z u) (k:K) (a:B.ok k):
 (gO t (.map mv) (B.kv k) false).run P w= .ok ((lookL l k).getD z) w:=by
 cases mv with
 |none=> have h:l=[]:=h;subst h;rw [Maps.look_nil false B.keyed c (d w) (B.key k a)];rfl
 |some b=>exact ak.look h c (d w) k a
theorem cj.len {w:ft} {mv:Option Nat} {l:List (K×fz)} (h:cj B w mv l) {t e:hd} (c:P.underlying t=X (.map kt e)) (a:hd):
 (Builtin.len_ #[t] a #[.map mv]).run P w= .ok (J U l.length) w:=by
 cases mv with
 |none=> have h:l=[]:=h;subst h;exact Maps.len_nil c a
 |some b=> obtain ⟨g,d,f,_⟩:=h;have:=d.len c a;rw [ak.size f] at this;exact this
theorem cj.lt {w:ft} {b:Nat} {l:List (K×fz)} (h:cj B w (X b) l):b<w.heap.size:=ak.lt h
theorem cj.ok {w:ft} {mv:Option Nat} {l:List (K×fz)} (h:cj B w mv l):∀p∈l,B.ok p.1:=by
 cases mv with
 |none=> have h:l=[]:=h;subst h;intro p a;cases a
 |some b=>exact ak.ok h
end
theorem fe {K V:Type} [DecidableEq K] (l:List (K×V)) (f:V->fz) (k:K):lookL (l.map λp=>(p.1,f p.2)) k=(findK l k).map f:=by
 induction l with
 |nil=>rfl
 |cons p l ih=>
  unfold findK at ih ⊢;rw [hH,dh,List.find?_cons];by_cases h:p.1=k
  · rw [if_pos h];simp [h]
  · rw [if_neg h,ih];simp [h]
theorem zJ {K V:Type} [DecidableEq K] (l:List (K×V)) (f:K->V->fz) (k:K):co (l.map λp=>(p.1,f p.1 p.2)) k=(l.filter λp=> !decide (p.1=k)).map λp=>(p.1,f p.1 p.2):=by
 unfold co;rw [List.filter_map];rfl
theorem iU {K V:Type} [DecidableEq K] {lt:K->K->Bool} (T:Tot lt) {l:List (K×V)} (a:aw lt l) (f:K->V->fz) (k:K) (v:V):
 (putL (l.map λp=>(p.1,f p.1 p.2)) k (f k v)).Perm ((insL lt l k v).map λp=>(p.1,f p.1 p.2)):=by
 unfold putL;rw [zJ];have:=(xx T a k v).map (λp=>(p.1,f p.1 p.2));rw [List.map_append] at this;exact this
def kf (k:RK) (n:Int) (r:az) (x:fz):fz:= .agg #[J U k.1,J U k.2,J U n,J ej r.kind.toNat,J ej r.level.toNat,x]
abbrev VX:=(Int×az)×fz
def iL (k:RK) (p:VX):fz:=kf k p.1.1 p.1.2 p.2
def ga (p:Int×Bool):fz:= .agg #[J U p.1,e7 p.2]
theorem ub {K V W:Type} [DecidableEq K] (lt:K->K->Bool) (g:V->W) (l:List (K×V)) (k:K) (v:V):(insL lt l k v).map (λp=>(p.1,g p.2))=insL lt (l.map λp=>(p.1,g p.2)) k (g v):=by
 induction l with
 |nil=>rfl
 |cons p l ih=>
  unfold insL;rw [hH];dsimp only;by_cases h:lt p.1 k=true
  · rw [if_pos h,if_pos h,hH,ih]
  · rw [if_neg h,if_neg h];by_cases h2:p.1=k
    · rw [if_pos h2,if_pos h2];rfl
    · rw [if_neg h2,if_neg h2];rfl
def dM (F:Nat->Prop) (w:ft) (p:RK×VX):Prop:=∃lo a,ai lo a w p.2.2 p.2.1.2.fields/\a<=w.heap.size/\∀k,lo<=k->k<a->F k
theorem dM.step {F:Nat->Prop} {w w':ft} {p:RK×VX} (h:dM F w p) (f:∀k,F k->w'.heap[k]? =w.heap[k]?) (i:w.heap.size<=w'.heap.size):dM F w' p:=by
 obtain ⟨lo,e,d,g,c⟩:=h;exact ⟨lo,e,d.kept (λk a b=>f k (c k a b)),by omega,c⟩
theorem dM.wide {F G:Nat->Prop} {w:ft} {p:RK×VX} (h:dM F w p) (f:∀k,F k->G k):dM G w p:=by
 obtain ⟨lo,g,c,d,e⟩:=h;exact ⟨lo,g,c,d,λk a b=>f k (e k a b)⟩
def jl (F:Nat->Prop) (w:ft) (mv:Option Nat) (a:VL):Prop:=
 ∃ps:List (RK×VX),ps.map (λp=>(p.1,p.2.1))=a/\cj recB w mv (ps.map λp=>(p.1,iL p.1 p.2))/\∀p∈ps,dM F w p
structure AW (w:ft) (b:Nat) (L:VL) (set:List Nat):Prop where
 ex:∃l,ak recB w b l/\∀k,lookL l k=(atC L k).map λi=>recK (keyC L (set.getD i 0))
structure yo (F:Nat->Prop) (w:ft) (b:Nat) (L:VL) (set:List Nat):Prop where
 ex:∃l,ak recB w b l/\(∀k,(lookL l k).isSome=true↔∃t,t<L.length/\set.getD t 0=t/\keyC L t=k)/\
  ∀t,t<L.length->set.getD t 0=t->∃v,lookL l (keyC L t)=some v/\∃g n cap,v= .slice (some ⟨g,0,none⟩) n cap/\F g/\eh 0 w.heap.size w v (aV L set t)
def c8 (F:Nat->Prop) (w:ft) (t:Nat) (L:VL) (set:List Nat):Prop:=
 ∃b a,w.heap[t]? =X (e9 #[er (X b),er (X a)] 95 (0,0))/\F t/\F b/\F a/\AW w b L set/\yo F w a L set
def zX (F:Nat->Prop) (w:ft) (a:fz) (d:aq):Prop:=a=em Y∨∃t,a=em (X ⟨t,0,Y⟩)/\c8 F w t (thereC d) (setsC d)
structure aZ (d:aq):Prop where
 ok:d.Ok
 vlen:d.vs.length<=5000
 dlen:d.ds.length<=5000
 plen:d.ps.length<=5000
 right:∀p∈d.vs,wrongR p.2.2=0
 vnum:∀p∈d.vs,i64B p.2.1
 dnum:∀p∈d.ds,i64B p.2
 pnum:∀p∈d.ps,i64B p.2.1
 vkey:∀p∈d.vs,rkOk p.1
 dkey:∀p∈d.ds,rkOk p.1
 pkey:∀p∈d.ps,pkOk p.1
def restF (F:Nat->Prop) (c:Nat) (a b d:Option Nat) (k:Nat):Prop:=F k/\k≠c/\a≠X k/\b≠X k/\d≠X k
structure dP (F:Nat->Prop) (w:ft) (c:Nat) (m1 m2 m3:Option Nat) (kn:fz) (d:aq):Prop where
 blk:w.heap[c]? =some (.cells #[.map m1, .map m2, .map m3,kn] 117 (0,0))
 vs:jl (restF F c m1 m2 m3) w m1 d.vs
 ds:cj recB w m2 (d.ds.map λp=>(p.1, .int .i64 p.2))
 ps:cj pairB w m3 (d.ps.map λp=>(p.1,ga p.2))
 kn:zX (restF F c m1 m2 m3) w kn d
 fc:F c
 f1:∀m,m1=some m->F m
 f2:∀m,m2=some m->F m
 f3:∀m,m3=some m->F m
 one:(m1=none/\m2=none/\m3=none)∨∃a b e,m1=some a/\m2=some b/\m3=some e/\a≠b/\a≠e/\b≠e
 lt:∀k,F k->k<w.heap.size
 ok:aZ d
def be (F:Nat->Prop) (w:ft) (c:Nat) (d:aq):Prop:=∃b e f a,dP F w c b e f a d
theorem jl.step {F:Nat->Prop} {w w':ft} {mv:Option Nat} {a:VL} (h:jl F w mv a) (g:∀b,mv=X b->w'.heap[b]? =w.heap[b]?) (f:∀k,F k->w'.heap[k]? =w.heap[k]?) (j:w.heap.size<=w'.heap.size):jl F w' mv a:=by
 obtain ⟨ps,c,d,e⟩:=h;exact ⟨ps,c,d.block g,λp i=>(e p i).step f j⟩
theorem jl.wide {F G:Nat->Prop} {w:ft} {mv:Option Nat} {a:VL} (h:jl F w mv a) (e:∀k,F k->G k):jl G w mv a:=by
 obtain ⟨ps,b,c,d⟩:=h;exact ⟨ps,b,c,λp f=>(d p f).wide e⟩
theorem c8.step {F:Nat->Prop} {w w':ft} {t:Nat} {L:VL} {set:List Nat} (h:c8 F w t L set) (f:∀k,F k->w'.heap[k]? =w.heap[k]?) (hz:w.heap.size<=w'.heap.size):c8 F w' t L set:=by
 obtain ⟨s,r,z,m,o,p,⟨l,A,C⟩,⟨R,D,E,G⟩⟩:=h;refine ⟨s,r,(f t m).trans z,m,o,p,⟨l,A.block (f s o),C⟩,⟨R,D.block (f r p),E,λt M V=>?_⟩⟩;obtain ⟨v,N,g,n,u,i,q,I⟩:=G t M V;refine ⟨v,N,g,n,u,i,q,?_⟩;subst i;obtain ⟨a,c,d,h⟩:=I;refine ⟨a,c,d,λH=>?_⟩;obtain ⟨b,T,e,W,g2,y⟩:=h H;injection d with d _ _
 rw [<- d] at e;injection e with e
 injection e with hb ho i
 subst hb;refine ⟨g,T,by rw [<- d,ho],g8 _,by omega,λj x O=>?_⟩;rw [World.cell?_of_block (w:=w) (f g q)];exact y j x O
theorem c8.wide {F G:Nat->Prop} {w:ft} {t:Nat} {L:VL} {set:List Nat} (h:c8 F w t L set) (a:∀k,F k->G k):c8 G w t L set:=by
 obtain ⟨y,x,c,d,e,f,i,⟨u,j,l,m⟩⟩:=h;refine ⟨y,x,c,a _ d,a _ e,a _ f,i,⟨u,j,l,λt r z=>?_⟩⟩;obtain ⟨v,s,g,n,b,q,o,p⟩:=m t r z;exact ⟨v,s,g,n,b,q,a _ o,p⟩
theorem dP.step {F:Nat->Prop} {w w':ft} {c:Nat} {l m o:Option Nat} {j:fz} {d:aq} (h:dP F w c l m o j d) (a:∀k,F k->w'.heap[k]? =w.heap[k]?) (i:w.heap.size<=w'.heap.size):dP F w' c l m o j d:=by
 refine ⟨(a c h.fc).trans h.blk,h.vs.step (λb e=>a b (h.f1 b e)) (λk g=>a k g.1) i,h.ds.block (λb e=>a b (h.f2 b e)),h.ps.block (λb e=>a b (h.f3 b e)),?_,h.fc,h.f1,h.f2,h.f3,h.one,λk q=>Nat.lt_of_lt_of_le (h.lt k q) i,h.ok⟩;rcases h.kn with f|⟨t,f,p⟩
 · exact .inl f
 · exact .inr ⟨t,f,p.step (λk g=>a k g.1) i⟩
theorem be.step {F:Nat->Prop} {w w':ft} {c:Nat} {d:aq} (h:be F w c d) (a:∀k,F k->w'.heap[k]? =w.heap[k]?) (b:w.heap.size<=w'.heap.size):be F w' c d:=by
 obtain ⟨f,g,i,e,h⟩:=h;exact ⟨f,g,i,e,h.step a b⟩
theorem dP.below {F:Nat->Prop} {w w':ft} {c:Nat} {e f g:Option Nat} {b:fz} {d:aq} (h:dP F w c e f g b d) (a:Bw w w'):dP F w' c e f g b d:=
 h.step (λk i=>a.block k (h.lt k i)) a.size
theorem be.below {F:Nat->Prop} {w w':ft} {c:Nat} {d:aq} (h:be F w c d) (a:Bw w w'):be F w' c d:=by
 obtain ⟨e,f,g,b,h⟩:=h;exact ⟨e,f,g,b,h.below a⟩
theorem kF:aZ cat0:=by
 refine ⟨⟨.nil, .nil, .nil,?_⟩,?_,?_,?_,?_,?_,?_,?_,?_,?_,?_⟩<;>simp [cat0]
theorem tU (w:ft):be (λk=>k=w.heap.size) (w.alloc (e9 #[er Y,er Y,er Y,em Y] 117)) w.heap.size cat0:=by
 refine ⟨Y,Y,Y,em Y,eQ w _,⟨[],rfl,rfl,?_⟩,rfl,rfl, .inl rfl,rfl,?_,?_,?_, .inl ⟨rfl,rfl,rfl⟩,λk b=>by rw [b];simp,kF⟩
 · intro p c;cases c
 · intro m a;cases a
 · intro m a;cases a
 · intro m a;cases a
theorem ak.empty {P:hJ} {kt:hd} {K:Type} [DecidableEq K] {B:ee P kt K} {w:ft} {b:Nat} (h:w.heap[b]? =X (.map #[] 0)):ak B w b []:=by
 obtain ⟨d,⟨e,c,a,f⟩,g⟩:=ak.made (B:=B) w;rw [eQ] at a;exact ⟨d,⟨e,c,h.trans a,f⟩,g⟩
theorem aj {w:ft} {b c:Nat} {d:Array fz} {t:hd} {P:hJ} {kt:hd} {K:Type} [DecidableEq K] {B:ee P kt K} {l:List (K×fz)} (f:ak B w b l) (e:w.heap[c]? =X (e9 d t (0,0))):b≠c:=by
 rintro rfl;obtain ⟨g,⟨h,k,a,_⟩,_⟩:=f;rw [e] at a;cases a
theorem gJ {F:Nat->Prop} {w:ft} {c:Nat} {m1 m2 m3:Option Nat} {u:fz} {d:aq} (h:dP F w c m1 m2 m3 u d):
 gs prog 57 #[em (X ⟨c,0,Y⟩)] w λe w'=>e=e6 (.tuple #[])/\∃y a b z,dP y w' c (X a) (X b) (X z) u d/\ag F w y w':=by
 rcases h.one with ⟨rfl,rfl,rfl⟩|⟨a,b,e,rfl,rfl,rfl,a5,a6,a7⟩
 · refine (pj c u w h.blk).mono ?_;rintro e w' ⟨rfl,rfl⟩
   · obtain ⟨i,o⟩:=Qe (((w.alloc (.map #[] 0)).alloc (.map #[] 0)).alloc (.map #[] 0));have T:=h.lt c h.fc;have a4:i.heap.size=w.heap.size+3:=by rw [<- o];simp
     have C:∀k,k<w.heap.size->i.heap[k]? =w.heap[k]? :=λk f=>by rw [<- o,fp _ _ _ (by simp;omega),fp _ _ _ (by simp;omega),fp _ _ _ f]
     have M:i.heap[w.heap.size]? =X (.map #[] 0):=by rw [<- o,fp _ _ _ (by simp;omega),fp _ _ _ (by simp)];exact eQ w _
     have N:i.heap[w.heap.size+1]? =X (.map #[] 0):=by rw [<- o,fp _ _ _ (by simp)];have:=eQ (w.alloc (.map #[] 0)) (.map #[] 0);rwa [gb] at this
     have R:i.heap[w.heap.size+2]? =X (.map #[] 0):=by rw [<- o];have:=eQ ((w.alloc (.map #[] 0)).alloc (.map #[] 0)) (.map #[] 0);rwa [gb,gb] at this
     rw [o];obtain ⟨l,q⟩:=Qe (((i.setCell ⟨c,0,Y⟩ (er (X w.heap.size))).setCell ⟨c,1,Y⟩ (er (X (w.heap.size+1)))).setCell ⟨c,2,Y⟩ (er (X (w.heap.size+2))));have a8:l.heap.size=w.heap.size+3:=by rw [<- q];simp [a4]
     have s:∀k,k≠c->l.heap[k]? =i.heap[k]? :=λk f=>by rw [<- q,fr _ _ _ _ f,fr _ _ _ _ f,fr _ _ _ _ f]
     have V:l.heap[c]? =X (e9 #[er (X w.heap.size),er (X (w.heap.size+1)),er (X (w.heap.size+2)),u] 117 (0,0)):=by rw [<- q];have D:=am ((C c T).trans h.blk) 0 (er (X w.heap.size));have E:=am D 1 (er (X (w.heap.size+1)));have G:=am E 2 (er (X (w.heap.size+2)));exact G
     rw [q];have x:∀j,w.heap.size+j≠c:=λj=>by omega
     have H:l.heap[w.heap.size]? =X (.map #[] 0):=(s _ (x 0)).trans M;have I:l.heap[w.heap.size+1]? =X (.map #[] 0):=(s _ (x 1)).trans N;have L:l.heap[w.heap.size+2]? =X (.map #[] 0):=(s _ (x 2)).trans R;have A:∀k,k<w.heap.size->k≠c->l.heap[k]? =w.heap[k]? :=λk f a0=>(s k a0).trans (C k f);obtain ⟨ps,q1,q2,q3⟩:=h.vs;have a3:ps=[]:=by simpa using (show ps.map (λp=>(p.1,iL p.1 p.2))=[] from q2)
     subst a3;have W:d.ds=[]:=by simpa using (show d.ds.map (λp=>(p.1,hI U p.2))=[] from h.ds)
     have a2:d.ps=[]:=by simpa using (show d.ps.map (λp=>(p.1,ga p.2))=[] from h.ps)
     have a1:∀k,F k->k<w.heap.size:=h.lt;refine ⟨rfl,λk=>F k∨k=w.heap.size∨k=w.heap.size+1∨k=w.heap.size+2,w.heap.size,w.heap.size+1,w.heap.size+2,?_,?_⟩
     · refine ⟨V,⟨[],q1,ak.empty H,(by intro p hp;cases hp)⟩,?_,?_,?_, .inl h.fc,?_,?_,?_, .inr ⟨_,_,_,rfl,rfl,rfl,by omega,by omega,by omega⟩,?_,h.ok⟩
       · rw [W];exact ak.empty I
       · rw [a2];exact ak.empty L
       · rcases h.kn with v|⟨t,v,O⟩
         · exact .inl v
         · refine .inr ⟨t,v,(O.step (λk r=>A k (h.lt k r.1) r.2.1) (by omega)).wide λk r=>?_⟩;have:=h.lt k r.1;exact ⟨.inl r.1,r.2.1,λe=>by injection e with e;omega,λe=>by injection e with e;omega,λe=>by injection e with e;omega⟩
       · intro m g;injection g with g;exact .inr (.inl g.symm)
       · intro m g;injection g with g;exact .inr (.inr (.inl g.symm))
       · intro m g;injection g with g;exact .inr (.inr (.inr g.symm))
       · intro k f;rcases f with f|f|f|f
         · have:=a1 k f;omega
         all_goals omega
     · refine ⟨?_,?_,?_,by omega,?_,?_⟩
       · rw [<- q, <- o];rfl
       · rw [<- q, <- o];rfl
       · rw [<- q, <- o];rfl
       · intro k f hn;exact A k f λe=>hn (e ▸ h.fc)
       · intro k f;rcases f with f|f|f|f
         · exact .inl f
         all_goals exact .inr (by omega)
 · refine (pi c a w ((aa h.blk 0).trans rfl)).mono ?_;rintro z w' ⟨rfl,rfl⟩;exact ⟨rfl,F,a,b,e,h,ag.refl _ _⟩
end
section
open Go.RowKit Go.Maps Go.Shelf
theorem wb:∀u:ft,(zeroValue 3).run prog u= .ok (J U 0) u:=λu=>by kernel_rfl
theorem gL:∀u:ft,(zeroValue 139).run prog u= .ok (.agg #[J U 0,e7 false]) u:=λu=>by kernel_rfl
theorem kI:∀u:ft,(zeroValue 64).run prog u= .ok (.agg #[J U 0,J U 0,J U 0,J ej 0,J ej 0,e8 Y 0 0]) u:=λu=>by kernel_rfl
theorem ln (q:Bool) (a b:Int) (m:Nat):aL false q a b m=aL false false a b m:=by unfold aL;simp
def dC (d:aq) (k:RK) (n:Int):Int:=aL (findK d.ds k).isSome (decide ((findK d.ds k).getD 0=n)) ((findK d.ds k).getD 0) n d.ds.length
theorem oX (d:aq) (k:RK) (n:Int):dropC d k n=if dC d k n=0 then ({d with ds:=insL ltRK d.ds k n},0) else (d,dC d k n):=by
 unfold dropC dC;cases findK d.ds k with
 |none=>simp only [hL,hM];rw [ln (decide (0=n))]
 |some m=>rfl
theorem fH {t q:Bool} {a b:Int} {m:Nat} (h:aL t q a b m=0) (c:t=false):m<5000:=by
 subst c;unfold aL at h;simp only [Bool.false_and,Bool.false_eq_true,if_false,Bool.not_false,Bool.true_and] at h;by_cases h5:5000<=m
 · simp [h5] at h
 · omega
theorem dA {K V:Type} [DecidableEq K] {lt:K->K->Bool} (l:List (K×V)) (k:K) (v:V):(insL lt l k v).length<=l.length+1:=by
 induction l with
 |nil=>simp [insL]
 |cons p l ih=>
  unfold insL;split
  · simp only [gy];omega
  · split
    · simp only [gy];omega
    · simp only [gy];omega
theorem qO {K V:Type} [DecidableEq K] {lt:K->K->Bool} (T:Tot lt) {l:List (K×V)} (b:aw lt l) (k:K) (v:V) (h:(findK l k).isSome=true):(insL lt l k v).length=l.length:=by
 induction l with
 |nil=>simp [findK] at h
 |cons p l ih=>
  obtain ⟨c,d⟩:=List.pairwise_cons.1 b;unfold insL;by_cases hp:lt p.1 k=true
  · rw [if_pos hp];have f:p.1≠k:=by intro e;rw [e,T.irr] at hp;cases hp
    have:(findK l k).isSome=true:=by unfold findK at h ⊢;rw [List.find?_cons] at h;simpa [f] using h
    simp only [gy];rw [ih d this]
  · rw [if_neg hp];by_cases hk:p.1=k
    · rw [if_pos hk];rfl
    · exfalso;rw [Option.isSome_iff_exists] at h;obtain ⟨x,a⟩:=h;rw [cR T b] at a;rcases List.mem_cons.1 a with a|a
      · exact hk (by rw [<- a])
      · exact hp (c _ a)
theorem oS {K V:Type} [DecidableEq K] {lt:K->K->Bool} (T:Tot lt) {l:List (K×V)} (b:aw lt l) (k:K) (v:V) (a:l.length<=5000) (h:(findK l k).isSome=false->l.length<5000):(insL lt l k v).length<=5000:=by
 cases hf:(findK l k).isSome
 · have:=dA (lt:=lt) l k v;have:=h hf;omega
 · rw [qO T b k v hf];exact a
theorem cN {K V:Type} [DecidableEq K] {lt:K->K->Bool} (T:Tot lt) {l:List (K×V)} (d:aw lt l) {k:K} {v:V} {R:K×V->Prop} (h:∀p∈l,R p) (b:R (k,v)):∀p∈insL lt l k v,R p:=λp c=>by
 rcases (eu T d k v p).1 c with rfl|⟨a,_⟩
 · exact b
 · exact h p a
theorem aZ.drop {d:aq} (h:aZ d) {k:RK} {n:Int} (b:rkOk k) (c:i64B n) (e:dC d k n=0):aZ {d with ds:=insL ltRK d.ds k n}:=by
 refine ⟨⟨h.ok.vs,cM aK h.ok.ds k n,h.ok.ps,h.ok.apart⟩,h.vlen,?_,h.plen,h.right,h.vnum,cN aK h.ok.ds h.dnum c,h.pnum,h.vkey,cN aK h.ok.ds h.dkey b,h.pkey⟩;exact oS aK h.ok.ds k n h.dlen λa=>fH e a
theorem dP.put2 {F:Nat->Prop} {w j:ft} {c a b e:Nat} {E:fz} {d:aq} {ds:List (RK×Int)} (h:dP F w c (X a) (X b) (X e) E d) (q:ar b w j) (i:ak recB j b (ds.map λp=>(p.1,J U p.2))) (C:aZ {d with ds:=ds}):
 dP F (j.setCell ⟨c,3,Y⟩ (em Y)) c (X a) (X b) (X e) (em Y) {d with ds:=ds}:=by
 have u:c≠b:=λe=>(aj (show ak recB w b _ from h.ds) h.blk) e.symm;have y:c≠a:=λe=>by obtain ⟨ps,_,g,_⟩:=h.vs;exact (aj (show ak recB w a _ from g) h.blk) e.symm
 have z:c≠e:=λr=>(aj (show ak pairB w e _ from h.ps) h.blk) r.symm;rcases h.one with ⟨f,_⟩|⟨G,H,r,f,g,l,s,x,t⟩
 · cases f
 injection f with f;injection g with g;injection l with l
 subst f;subst g;subst l;have o:∀k,k≠c->k≠b->(j.setCell ⟨c,3,Y⟩ (em Y)).heap[k]? =w.heap[k]? :=λk f g=>(fr _ _ _ _ f).trans (q.block k g);have D:(j.setCell ⟨c,3,Y⟩ (em Y)).heap.size=w.heap.size:=by rw [gq,q.size]
 refine ⟨?_,h.vs.step (λm i=>by injection i with i;subst i;exact o _ (hv y) s) (λk v=>o k v.2.1 (λe=>v.2.2.2.1 (by rw [e]))) (by omega),?_,?_, .inl rfl,h.fc,h.f1,h.f2,h.f3, .inr ⟨a,b,e,rfl,rfl,rfl,s,x,t⟩,λk A=>by rw [D];exact h.lt k A,C⟩
 · exact am ((q.block c u).trans h.blk) 3 (em Y)
 · exact i.block (fr _ _ _ _ (hv u))
 · exact ak.block (show ak pairB w e _ from h.ps) (o e (hv z) (hv t))
theorem jf (F:Nat->Prop) (w:ft) (c:Nat) (d:aq) (h:be F w c d) (k:RK) (n:Int) (V:rkOk k) (hn:i64B n):
 gs prog 27 #[em (X ⟨c,0,Y⟩),recK k,J U n] w λe w'=>e=e6 (J U (dropC d k n).2)/\∃l,be l w' c (dropC d k n).1/\ag F w l w':=by
 have a2:=Z (oX d k n);obtain ⟨m1,m2,m3,kn,h⟩:=h;obtain ⟨f,g⟩:=k;unfold recK;dsimp only;obtain ⟨i,R⟩:=Qe (w.alloc (e9 #[J U f,J U g] 36));have T:Bw w i:=by rw [<- R];exact (fl _ w).alloc (es _) _
 have D:i.heap[w.heap.size]? =X (e9 #[J U f,J U g] 36 (0,0)):=by rw [<- R];exact eQ w _
 have q:=h.below T;have c1:i.cell? ⟨c,1,Y⟩=X (.map m2):=(aa q.blk 1).trans rfl;have b0:i.cell? ⟨w.heap.size,0,Y⟩=X (J U f):=(aa D 0).trans rfl;have b1:i.cell? ⟨w.heap.size,1,Y⟩=X (J U g):=(aa D 1).trans rfl;have a0:=cj.look_ok (w:=i.drew) (q.ds.block (λ_ _=>rfl)) underlying114 wb (f,g) V;have ay:=λty=>cj.len (w:=i.drew) (q.ds.block (λ_ _=>rfl)) underlying114 ty;rw [fe d.ds (λn=>hI U n)] at a0;rw [gp] at ay;have b4:(gO 114 (.map m2) (.agg #[J U f,J U g]) true).run prog i.drew= .ok (.tuple #[J U ((findK d.ds (f,g)).getD 0),e7 (findK d.ds (f,g)).isSome]) i.drew:=by refine Eq.trans a0 ?_;cases findK d.ds (f,g)<;>rfl
 have HX:Hid (dC d (f,g) n=aL (findK d.ds (f,g)).isSome (decide ((findK d.ds (f,g)).getD 0=n)) ((findK d.ds (f,g)).getD 0) n d.ds.length):=rfl;have ao:Hid (dC d (f,g) n=0->aZ {d with ds:=insL ltRK d.ds (f,g) n}):=h.ok.drop V hn;clear a0;generalize (findK d.ds (f,g)).isSome=there at *;generalize (findK d.ds (f,g)).getD 0=old at *;generalize d.ds.length=many at *;have N:Hid (∀W,gs prog 56 #[e7 there,e7 (decide (old=n)),J U old,J U n,J U many] W λe w'=>e=e6 (J U (dC d (f,g) n))/\W=w'):=λW=>by rw [HX.o];exact gA _ _ _ _ _ W
 have HH:=Z q;have a1:=Z T;have HB:=Z D;have a3:Hid (i.heap.size=w.heap.size+1):=by unfold Hid;rw [<- R];simp
 have ad:=Z h.lt;have b3:c<w.heap.size:=h.lt c h.fc;clear h q T D;by_cases hx:dC d (f,g) n=0
 · rw [hx] at N;have C:=Z hx;clear hx;go_enter func27,ntmps27;go_wp2;go_region
   go_wp2_with (first
    |(go_at_call 56;((with_reducible refine gd (N.o _) ?_);rintro e w2 ⟨rfl,rfl⟩))
    |(go_at_call 57;((with_reducible refine gd (gJ (HH.o.below (fl _ i).drew)) ?_);rintro e m ⟨rfl,l,a,b,e',t,H⟩)))
   have a7:¬F w.heap.size:=λhf=>by have:=ad.o _ hf;omega
   have b5:¬l w.heap.size:=H.not (by have:=a3.o;show w.heap.size<i.heap.size;omega) a7;have O:m.heap[w.heap.size]? =X (e9 #[J U f,J U g] 36 (0,0)):=(H.block _ (by have:=a3.o;show w.heap.size<i.heap.size;omega) a7).trans HB.o;have G:ak recB m b _:=t.ds;obtain ⟨st,ax,av,a8,a4,o,ac⟩:=ak.entry (w:=m.drew) (ak.drew G) gC underlying114 wb (f,g) V (by rw [gp];have:=t.ok.dlen;unfold maxLen;omega);have L:c≠b:=λe=>(aj G t.blk) e.symm;have E:w.heap.size≠b:=λe=>(aj G O) e.symm;have y:m.drew.cell? ⟨c,1,Y⟩=X (er (X b))/\m.drew.cell? ⟨w.heap.size,0,Y⟩=X (J U f)/\m.drew.cell? ⟨w.heap.size,1,Y⟩=X (J U g):=⟨(aa t.blk 1).trans rfl,(aa O 0).trans rfl,(aa O 1).trans rfl⟩;have s:=Z t;have au:=Z H;clear t H G;go_wp2_with fail
   refine wT (λw'=>w'.cell? ⟨c,1,Y⟩=X (er (X b))/\w'.cell? ⟨w.heap.size,0,Y⟩=X (J U f)/\w'.cell? ⟨w.heap.size,1,Y⟩=X (J U g)) 12 ?_;refine Qb [0,4,5,6,1,2,3] y (λw' h=>h) ?_;refine Dp 7 λK j=>?_;refine bo rfl a8 ?_;have u:=And.intro ((o.cell (p:=⟨c,1,Y⟩) L).trans y.1) (And.intro ((o.cell (p:=⟨w.heap.size,0,Y⟩) E).trans y.2.1) ((o.cell (p:=⟨w.heap.size,1,Y⟩) E).trans y.2.2));generalize gn m.drew b (.map ax av)=w4 at *;refine j _ _ (λ_=>u) ?_;clear j K;go_simp;refine Qb [8] u (λw' h=>h) ?_
   refine Dp 9 λK j=>?_;obtain ⟨r,a9,a6,A⟩:=ac w4 (J U n) a4;refine aW rfl a9 ?_;have I:=And.intro ((A.cell (p:=⟨c,1,Y⟩) L).trans u.1) (And.intro ((A.cell (p:=⟨w.heap.size,0,Y⟩) E).trans u.2.1) ((A.cell (p:=⟨w.heap.size,1,Y⟩) E).trans u.2.2));refine j _ _ (λ_=>I) ?_;clear j K;go_simp;refine Ds 10 I ?_;refine Qb [11] I (λw' h=>h) ?_
   have z:ar b m r:=(ar.trans ⟨o.os,o.tape,o.output,o.size,o.block⟩ A);have a5:ak recB r b ((insL ltRK d.ds (f,g) n).map λp=>(p.1,hI U p.2)):=a6.perm (iU aK s.ok.ok.ds (λ_ v=>hI U v) (f,g) n);have hF:=s.put2 z a5 (ao C.o);have c3:r.cell? ⟨c,3,Y⟩=X kn:=(z.cell (p:=⟨c,3,Y⟩) L).trans ((aa s.blk 3).trans rfl);have f3:r.frozen? ⟨c,3,Y⟩=false:=(z.frozen (p:=⟨c,3,Y⟩) L).trans (ab s.blk 3);have HF:=Z hF;have al:=Z z;clear hF y u I a6 a5 a9 A o ac a8 a4 z;refine Dl 12 ?_;go_wp2_with fail
   go_ret;rw [a2.o,if_pos C.o];refine ⟨rfl,l,⟨_,_,_,_,HF.o⟩,?_⟩;have aC:ag F w F i.drew:=ag.of_below a1.drew;have aS:ag F i.drew l m:=au.o;have aT:ag l m l r:=ag.of_only al.o (s.f2 b rfl);have b2:ag l r l (r.setCell ⟨c,3,Y⟩ (em Y)):=ag.of_only (ar.setCell (ar.refl c r) 3 _) s.fc;exact ((aC.trans aS).trans aT).trans b2
 · have C:=Z hx;have b6:((dC d (f,g) n)==0)=false:=by simpa using hx
   generalize dC d (f,g) n=x at *;go_enter func27,ntmps27;go_wp2;go_region;go_wp2_with (go_at_call 56;((with_reducible refine gd (N.o _) ?_);rintro e w2 ⟨rfl,rfl⟩))
   go_ret;rw [a2.o,if_neg C.o];exact ⟨rfl,F,⟨_,_,_,_,HH.below (fl _ i).drew⟩,ag.of_below a1.drew⟩
theorem q36 (a b c d:Int) (w:ft):(binOp .eql 36 (.agg #[J U a,J U b]) (.agg #[J U c,J U d])).run prog w= .ok (e7 (decide ((a,b)=(c,d)))) w:=by
 by_cases h1:a=c
 · by_cases h2:b=d
   · subst h1;subst h2;go_simp
   · subst h1;go_simp
 · go_simp
theorem Bm (a:Int) (c:Bool) (b:Int) (d:Bool) (w:ft):(binOp .eql 139 (.agg #[J U a,e7 c]) (.agg #[J U b,e7 d])).run prog w= .ok (e7 (decide (a=b)&&decide (c=d))) w:=by
 by_cases h1:a=b
 · subst h1;cases c<;>cases d<;>go_simp
 · go_simp
theorem cZ {w:ft} {b t:Nat} {x y:fz} (h:w.heap[b]? =X (e9 #[x,y] t (0,0))):w.cell? ⟨b,0,Y⟩=X x/\w.cell? ⟨b,1,Y⟩=X y:=⟨(aa h 0).trans rfl,(aa h 1).trans rfl⟩
theorem mI {w:ft} {b t:Nat} {x y z u:fz} (h:w.heap[b]? =X (e9 #[x,y,z,u] t (0,0))):w.cell? ⟨b,0,Y⟩=X x/\w.cell? ⟨b,1,Y⟩=X y/\w.cell? ⟨b,2,Y⟩=X z/\w.cell? ⟨b,3,Y⟩=X u:=⟨(aa h 0).trans rfl,(aa h 1).trans rfl,(aa h 2).trans rfl,(aa h 3).trans rfl⟩
def dZ (d:aq) (p:PK) (n:Int) (j:Bool):Int:=aL (findK d.ps p).isSome (decide (((findK d.ps p).getD (0,false)).1=n)&&decide (((findK d.ps p).getD (0,false)).2=j)) ((findK d.ps p).getD (0,false)).1 n d.ps.length
theorem jI (d:aq) (a b:RK) (n:Int) (j:Bool) (c:a≠b):decideC d a b n j=if dZ d (pairK a b) n j=0 then ({d with ps:=insL ltPK d.ps (pairK a b) (n,j)},0) else (d,dZ d (pairK a b) n j):=by
 unfold decideC dZ;rw [if_neg c];cases findK d.ps (pairK a b) with
 |none=>simp only [hL,hM];rw [ln (decide (0=n)&&decide (false=j))]
 |some m=>rfl
theorem oC {a b:RK} (c:rkOk a) (d:rkOk b):pkOk (pairK a b):=by
 unfold pairK;split
 · exact ⟨d,c⟩
 · exact ⟨c,d⟩
theorem yM {a b:RK} (h:a≠b):ltRK (pairK a b).1 (pairK a b).2=true:=by
 unfold pairK;split
 · assumption
 · rename_i d;rcases aK.tot a b h with c|c
   · exact c
   · exact absurd c d
theorem aZ.decide {d:aq} (h:aZ d) {a b:RK} {n:Int} {j:Bool} (e:a≠b) (c:rkOk a) (f:rkOk b) (i:i64B n) (k:dZ d (pairK a b) n j=0):aZ {d with ps:=insL ltPK d.ps (pairK a b) (n,j)}:=by
 refine ⟨⟨h.ok.vs,h.ok.ds,cM dt h.ok.ps _ _,cN dt h.ok.ps h.ok.apart (yM e)⟩,h.vlen,h.dlen,?_,h.right,h.vnum,h.dnum,cN dt h.ok.ps h.pnum i,h.vkey,h.dkey,cN dt h.ok.ps h.pkey (oC c f)⟩;exact oS dt h.ok.ps _ _ h.plen λg=>fH k g
theorem dP.put3 {F:Nat->Prop} {w j:ft} {c a b e:Nat} {E:fz} {d:aq} {ps:List (PK×(Int×Bool))} (h:dP F w c (X a) (X b) (X e) E d) (q:ar e w j) (i:ak pairB j e (ps.map λp=>(p.1,ga p.2))) (C:aZ {d with ps:=ps}):
 dP F (j.setCell ⟨c,3,Y⟩ (em Y)) c (X a) (X b) (X e) (em Y) {d with ps:=ps}:=by
 have z:c≠b:=λe=>(aj (show ak recB w b _ from h.ds) h.blk) e.symm;have y:c≠a:=λe=>by obtain ⟨ps,_,g,_⟩:=h.vs;exact (aj (show ak recB w a _ from g) h.blk) e.symm
 have u:c≠e:=λr=>(aj (show ak pairB w e _ from h.ps) h.blk) r.symm;rcases h.one with ⟨f,_⟩|⟨G,H,r,f,g,l,x,s,t⟩
 · cases f
 injection f with f;injection g with g;injection l with l
 subst f;subst g;subst l;have o:∀k,k≠c->k≠e->(j.setCell ⟨c,3,Y⟩ (em Y)).heap[k]? =w.heap[k]? :=λk f g=>(fr _ _ _ _ f).trans (q.block k g);have D:(j.setCell ⟨c,3,Y⟩ (em Y)).heap.size=w.heap.size:=by rw [gq,q.size]
 refine ⟨?_,h.vs.step (λm i=>by injection i with i;subst i;exact o _ (hv y) s) (λk v=>o k v.2.1 (λe=>v.2.2.2.2 (by rw [e]))) (by omega),?_,?_, .inl rfl,h.fc,h.f1,h.f2,h.f3, .inr ⟨a,b,e,rfl,rfl,rfl,x,s,t⟩,λk A=>by rw [D];exact h.lt k A,C⟩
 · exact am ((q.block c u).trans h.blk) 3 (em Y)
 · exact ak.block (show ak recB w b _ from h.ds) (o b (hv z) t)
 · exact i.block (fr _ _ _ _ (hv u))
theorem nt (F:Nat->Prop) (w:ft) (c:Nat) (d:aq) (h:be F w c d) (a b:RK) (n:Int) (j:Bool) (ha:rkOk a) (D:rkOk b) (hn:i64B n):
 gs prog 76 #[em (X ⟨c,0,Y⟩),recK a,recK b,ga (n,j)] w λe w'=>e=e6 (J U (decideC d a b n j).2)/\∃I,be I w' c (decideC d a b n j).1/\ag F w I w':=by
 by_cases hab:a=b
 · have HE:Hid (decideC d a b n j=(d,1)):=by unfold Hid decideC;rw [if_pos hab]
   subst hab;obtain ⟨g,i⟩:=a;unfold recK ga;dsimp only;have HB:Hid (∀o o' d2,Bw w (((w.alloc o).alloc o').alloc d2)):=λo o' d2=>(((fl _ w).alloc (es _) o).alloc (by simp) o').alloc (by simp;omega) d2;have HH:=Z h;clear h;go_enter func76,ntmps76;go_wp2;go_ret;rw [HE.o];exact ⟨rfl,F,HH.below (HB _ _ _),ag.of_below (HB _ _ _)⟩
 have b6:=Z (jI d a b n j hab);have cb:Hid (dZ d (pairK a b) n j=0->aZ {d with ps:=insL ltPK d.ps (pairK a b) (n,j)}):=by obtain ⟨_,_,_,_,h⟩:=h;exact h.ok.decide hab ha D hn
 have bb:pkOk (pairK a b):=oC ha D;have b8:Hid (pairK a b=if ltRK b a then (b,a) else (a,b)):=rfl;obtain ⟨m1,m2,C,kn,h⟩:=h;obtain ⟨g,i⟩:=a;obtain ⟨l,q⟩:=b;have ce:(bp (l,q) (g,i)<0)↔ltRK (l,q) (g,i)=true:=eC _ _;have e2:decide ((g,i)=(l,q))=false:=decide_eq_false hab;have HC:Hid (∀W,gs prog 49 #[.agg #[J U l,J U q], .agg #[J U g,J U i]] W λe w'=>e=e6 (J U (bp (l,q) (g,i)))/\bn W w'):=λW=>eJ (l,q) (g,i) W;unfold recK ga;dsimp only;have e4:=λw=>q36 g i l q w;rw [e2] at e4;have e5:=Bm;obtain ⟨f,bB⟩:=Qe ((((w.alloc (e9 #[J U g,J U i] 36)).alloc (e9 #[J U l,J U q] 36)).alloc (e9 #[J U n,e7 j] 139)));have aS:Bw w f:=by rw [<- bB];exact (((fl _ w).alloc (es _) _).alloc (by simp) _).alloc (by simp;omega) _
 have da:f.heap.size=w.heap.size+3:=by rw [<- bB];simp
 have cc:f.heap[w.heap.size]? =X (e9 #[J U g,J U i] 36 (0,0)):=by rw [<- bB,fp _ _ _ (by simp;omega),fp _ _ _ (by simp)];exact eQ w _
 have cd:f.heap[w.heap.size+1]? =X (e9 #[J U l,J U q] 36 (0,0)):=by rw [<- bB,fp _ _ _ (by simp)];have:=eQ (w.alloc (e9 #[J U g,J U i] 36)) (e9 #[J U l,J U q] 36);rwa [gb] at this
 have d6:f.heap[w.heap.size+2]? =X (e9 #[J U n,e7 j] 139 (0,0)):=by rw [<- bB];have:=eQ ((w.alloc (e9 #[J U g,J U i] 36)).alloc (e9 #[J U l,J U q] 36)) (e9 #[J U n,e7 j] 139);rwa [gb,gb] at this
 have x0:f.cell? ⟨w.heap.size,0,Y⟩=X (J U g):=(aa cc 0).trans rfl;have x1:f.cell? ⟨w.heap.size,1,Y⟩=X (J U i):=(aa cc 1).trans rfl;have y0:f.cell? ⟨w.heap.size+1,0,Y⟩=X (J U l):=(aa cd 0).trans rfl;have y1:f.cell? ⟨w.heap.size+1,1,Y⟩=X (J U q):=(aa cd 1).trans rfl;have HH:=Z (h.below aS);have dd:=Z cc;have dk:=Z cd;have dr:=Z d6;have d3:=Z aS;have b9:=Z da;have bk:=Z h.lt;obtain ⟨Wp,cv⟩:=Qe (f.alloc (e9 #[J U g,J U i,J U l,J U q] 134));have d9:Bw f Wp:=by rw [<- cv];exact (fl _ f).alloc (es _) _
 have dc:Wp.heap.size=f.heap.size+1:=by rw [<- cv];simp
 have d7:Wp.heap[f.heap.size]? =X (e9 #[J U g,J U i,J U l,J U q] 134 (0,0)):=by rw [<- cv];exact eQ f _
 have ds:=Z d7;have dx:=Z d9;have dz:=Z dc
 have b7:Hid (∀H,bn Wp H->H.heap[f.heap.size]? =X (e9 #[J U g,J U i,J U l,J U q] 134 (0,0))/\H.heap[w.heap.size]? =X (e9 #[J U g,J U i] 36 (0,0))/\H.heap[w.heap.size+1]? =X (e9 #[J U l,J U q] 36 (0,0))/\
  H.heap[w.heap.size+2]? =X (e9 #[J U n,e7 j] 139 (0,0))/\dP F H c m1 m2 C kn d/\Bw w H):=λH hg=>by
  have D:=hg.below
  have R:=b9.o
  have T:=dz.o
  have a9:Bw f H:=btr dx.o D (by omega)
  exact ⟨(D.block _ (by omega)).trans ds.o,(a9.block _ (by omega)).trans dd.o,(a9.block _ (by omega)).trans dk.o,(a9.block _ (by omega)).trans dr.o,HH.o.below a9,btr d3.o a9 d3.o.size⟩
 clear h aS cc cd d6 da hab d9 dc d7;by_cases hlt:ltRK (l,q) (g,i)=true
 · have e1:bp (l,q) (g,i)<0:=ce.2 hlt;rw [if_pos hlt] at b8;rw [b8.o] at bb b6 cb;generalize bp (l,q) (g,i)=cm at *;clear hlt ce b8;obtain ⟨v0,v1⟩:=cZ (b7 Wp (bn.refl _)).2.1;obtain ⟨v2,v3⟩:=cZ (b7 Wp (bn.refl _)).2.2.1;go_enter func76,ntmps76;go_wp2_with (go_at_call 49;go_loud (((with_reducible refine gd (HC.o _) ?_);rintro e H ⟨rfl,c0⟩;obtain ⟨g0,g1,g2,g3,g4,g5⟩:=b7.o _ c0;obtain ⟨z0,z1⟩:=cZ g1;obtain ⟨z2,z3⟩:=cZ g2;obtain ⟨p0,p1,p2,p3⟩:=mI g0;have f0:=ab g0 0;have f1:=ab g0 1;have f2:=ab g0 2;have f3:=ab g0 3;have G0:=Z g0;have G3:=Z g3;have G4:=Z g4;have G5:=Z g5;clear g0 g1 g2 g3 g4 g5 c0)))
   have a5:Hid ((((((H.setCell ⟨f.heap.size,0,Y⟩ (J U l)).setCell ⟨f.heap.size,1,Y⟩ (J U q)).setCell ⟨f.heap.size,2,Y⟩ (J U g)).setCell ⟨f.heap.size,3,Y⟩ (J U i))).heap[f.heap.size]? =X (e9 #[J U l,J U q,J U g,J U i] 134 (0,0))):=am (am (am (am G0.o 0 (J U l)) 1 (J U q)) 2 (J U g)) 3 (J U i);have av:Hid (ar f.heap.size H ((((H.setCell ⟨f.heap.size,0,Y⟩ (J U l)).setCell ⟨f.heap.size,1,Y⟩ (J U q)).setCell ⟨f.heap.size,2,Y⟩ (J U g)).setCell ⟨f.heap.size,3,Y⟩ (J U i))):=((((ar.refl _ H).setCell 0 _).setCell 1 _).setCell 2 _).setCell 3 _;generalize ((((H.setCell ⟨f.heap.size,0,Y⟩ (J U l)).setCell ⟨f.heap.size,1,Y⟩ (J U q)).setCell ⟨f.heap.size,2,Y⟩ (J U g)).setCell ⟨f.heap.size,3,Y⟩ (J U i))=s at *;have G:Hid (dP F s c m1 m2 C kn d):=G4.o.step (λk hf=>av.o.block k (λe=>by have:=bk.o k hf;have:=b9.o;omega)) (by rw [av.o.size];exact es _);have ad:Hid (s.heap[w.heap.size+2]? =X (e9 #[J U n,e7 j] 139 (0,0))):=(av.o.block _ (by have:=b9.o;omega)).trans G3.o;have ac:Hid (Bw w s):=G5.o.trans (av.o.below (by have:=b9.o;omega));clear z0 z1 z2 z3 p0 p1 p2 p3 f0 f1 f2 f3 x0 x1 y0 y1 v0 v1 v2 v3;have b3:=λty=>cj.len (G.ps) underlying115 ty;rw [gp] at b3;have au:Hid (∀W,(∀m,C=X m->W.heap[m]? =s.heap[m]?)->(gO 115 (.map C) (.agg #[J U l,J U q,J U g,J U i]) true).run prog W= .ok (.tuple #[.agg #[J U ((findK d.ps ((l,q),g,i)).getD (0,false)).1,e7 ((findK d.ps ((l,q),g,i)).getD (0,false)).2],e7 (findK d.ps ((l,q),g,i)).isSome]) W):=λW hW=>by have:=cj.look_ok (w:=W) (G.ps.block hW) underlying115 gL ((l,q),g,i) bb;rw [fe d.ps ga] at this;refine Eq.trans this ?_;cases findK d.ps ((l,q),g,i)<;>rfl
   have HX:Hid (dZ d ((l,q),g,i) n j=aL (findK d.ps ((l,q),g,i)).isSome (decide (((findK d.ps ((l,q),g,i)).getD (0,false)).1=n)&&decide (((findK d.ps ((l,q),g,i)).getD (0,false)).2=j)) ((findK d.ps ((l,q),g,i)).getD (0,false)).1 n d.ps.length):=rfl;generalize (findK d.ps ((l,q),g,i)).isSome=there at *;generalize (findK d.ps ((l,q),g,i)).getD (0,false)=ov at *;obtain ⟨o1,o2⟩:=ov;dsimp only at au HX;have dy:Hid (d.ps.length=d.ps.length):=rfl;generalize hmany:d.ps.length=many at b3 HX;have HN:Hid (∀W,gs prog 56 #[e7 there,e7 (decide (o1=n)&&decide (o2=j)),J U o1,J U n,J U many] W λe w'=>e=e6 (J U (dZ d ((l,q),g,i) n j))/\W=w'):=λW=>by rw [HX.o];exact gA _ _ _ _ _ W
   have cg:=Z hmany;clear hmany;obtain ⟨p0,p1,p2,p3⟩:=mI a5.o
   have y:s.drew.cell? ⟨c,2,Y⟩=X (.map C)/\s.drew.cell? ⟨f.heap.size,0,Y⟩=X (J U l)/\s.drew.cell? ⟨f.heap.size,1,Y⟩=X (J U q)/\s.drew.cell? ⟨f.heap.size,2,Y⟩=X (J U g)/\s.drew.cell? ⟨f.heap.size,3,Y⟩=X (J U i)/\(∀m,C=X m->s.drew.heap[m]? =s.heap[m]?):=
    ⟨(aa G.blk 2).trans rfl,p0,p1,p2,p3,λ_ _=>rfl⟩
   clear p0 p1 p2 p3
   have al:Hid (∀W,Bw s W->W.cell? ⟨c,2,Y⟩=X (.map C)/\W.cell? ⟨f.heap.size,0,Y⟩=X (J U l)/\W.cell? ⟨f.heap.size,1,Y⟩=X (J U q)/\W.cell? ⟨f.heap.size,2,Y⟩=X (J U g)/\W.cell? ⟨f.heap.size,3,Y⟩=X (J U i)/\(∀m,C=X m->W.heap[m]? =s.heap[m]?)):=λW D=>
    ⟨fk D _ _ y.1,fk D _ _ y.2.1,fk D _ _ y.2.2.1,fk D _ _ y.2.2.2.1,fk D _ _ y.2.2.2.2.1,λm hm=>D.block m (G.lt m (G.f3 m hm))⟩
   refine wT (λW=>W.cell? ⟨c,2,Y⟩=X (.map C)/\W.cell? ⟨f.heap.size,0,Y⟩=X (J U l)/\W.cell? ⟨f.heap.size,1,Y⟩=X (J U q)/\W.cell? ⟨f.heap.size,2,Y⟩=X (J U g)/\W.cell? ⟨f.heap.size,3,Y⟩=X (J U i)/\(∀m,C=X m->W.heap[m]? =s.heap[m]?)) 11 ?_;refine Qb [0,4,1,2,3] y (λw' h=>h) ?_;refine tk 5 ?_ rfl y ?_ ?_;rotate_left;intro w' h;obtain ⟨V,R,T,h3,h4,M⟩:=h;have hl:=au w' M;go_simp;rfl;try go_simp
   refine Qb [6,7,8] y (λw' h=>h) ?_;refine Dp 9 λK r=>?_;go_simp;have bY:∀o,Bw s (s.drew.alloc o):=λo=>(fl _ s).drew.alloc (es _) o;refine r _ _ (λ_=>al _ (bY _)) ?_;clear r K;refine Dp 10 λK r=>?_;go_simp;have aT:∀o,Bw s (s.alloc o).drew:=λo=>((fl _ s).alloc (es _) o).drew;refine r _ _ (λ_=>al _ (aT _)) ?_;clear r K;refine Dl 11 ?_;obtain ⟨z,a8⟩:=Qe ((s.alloc (e9 #[J U o1,e7 o2] 139)).drew);have bw:z.heap[s.heap.size]? =X (e9 #[J U o1,e7 o2] 139 (0,0)):=by rw [<- a8];exact eQ s _
   have a3:Bw s z:=by rw [<- a8];exact aT _
   have a4:=Z (G.below a3);have d8:=(a3.block _ (ae a5.o)).trans a5.o;have ay:=(a3.block _ (ae ad.o)).trans ad.o;have bc:Hid (Bw w z):=btr ac.o a3 ac.size;have cy:=λty=>cj.len (w:=z.drew) (a4.ps.block (λ_ _=>rfl)) underlying115 ty;rw [gp,cg.o] at cy;rw [a8];clear b3 y al bY aT a8 a3 au G ad ac a5 av;obtain ⟨s0,s1⟩:=cZ bw;obtain ⟨r0,r1⟩:=cZ ay;have e0:z.cell? ⟨c,2,Y⟩=X (.map C):=(aa a4.blk 2).trans rfl;have d4:=Z d8;have bs:=Z ay;clear bw ay d8;go_wp2_with fail
   refine wT (λW=>W=z.drew) 14 ?_;refine Qb [0,1,2,4,6,8,3,5,7,9,10,11] rfl (λw' h=>h) ?_;refine Ds 12 rfl ?_;refine Dp 13 λK r=>?_;go_simp;go_at_call 56;refine (HN _).mono ?_;rintro e w9 ⟨rfl,rfl⟩;refine r _ _ (λ_=>rfl) ?_;clear r K;refine Dl 14 ?_;by_cases hx:dZ d ((l,q),g,i) n j=0
   · have a6:=Z hx;rw [hx];go_wp2_with (go_at_call 57;((with_reducible refine gd (gJ (a4.o.below (fl _ z).drew)) ?_);rintro e A ⟨rfl,I,ma,mb,u,N,y⟩))
     have cP:¬F f.heap.size:=λhf=>by have:=bk.o _ hf;have:=b9.o;omega
     have cz:¬F (w.heap.size+2):=λhf=>by have:=bk.o _ hf;omega
     have cu:f.heap.size<z.drew.heap.size:=ae d4.o;have cq:w.heap.size+2<z.drew.heap.size:=ae bs.o;have cx:=(y.block _ cu cP).trans d4.o;have ax:=(y.block _ cq cz).trans bs.o;have a0:ak pairB A u _:=N.ps;obtain ⟨st,bv,bt,c6,bO,c4,c9⟩:=ak.entry (w:=A.drew) (ak.drew a0) sI underlying115 gL ((l,q),g,i) bb (by rw [gp];have:=N.ok.plen;unfold maxLen;omega);have b0:c≠u:=λe=>(aj a0 N.blk) e.symm;have cs:f.heap.size≠u:=λe=>(aj a0 cx) e.symm;have cp:w.heap.size+2≠u:=λe=>(aj a0 ax) e.symm;have ao:Hid (∀W,ar u A W->W.cell? ⟨c,2,Y⟩=X (er (X u))/\W.cell? ⟨f.heap.size,0,Y⟩=X (J U l)/\W.cell? ⟨f.heap.size,1,Y⟩=X (J U q)/\W.cell? ⟨f.heap.size,2,Y⟩=X (J U g)/\W.cell? ⟨f.heap.size,3,Y⟩=X (J U i)/\W.cell? ⟨w.heap.size+2,0,Y⟩=X (J U n)/\W.cell? ⟨w.heap.size+2,1,Y⟩=X (e7 j)):=λW ho=>by obtain ⟨p0,p1,p2,p3⟩:=mI ((ho.block _ cs).trans cx);obtain ⟨r0,r1⟩:=cZ ((ho.block _ cp).trans ax);exact ⟨(aa ((ho.block c b0).trans N.blk) 2).trans rfl,p0,p1,p2,p3,r0,r1⟩
     have b4:ar u A A.drew:=(ar.refl u A).drew;have bA:=ao _ b4;have L:=Z N;have cl:=Z y;clear N y a0 cx ax;go_wp2_with fail
     refine wT (λW=>W.cell? ⟨c,2,Y⟩=X (er (X u))/\W.cell? ⟨f.heap.size,0,Y⟩=X (J U l)/\W.cell? ⟨f.heap.size,1,Y⟩=X (J U q)/\W.cell? ⟨f.heap.size,2,Y⟩=X (J U g)/\W.cell? ⟨f.heap.size,3,Y⟩=X (J U i)/\W.cell? ⟨w.heap.size+2,0,Y⟩=X (J U n)/\W.cell? ⟨w.heap.size+2,1,Y⟩=X (e7 j)) 12 ?_;refine Qb [0,4,5,6,1,2,3] bA (λw' h=>h) ?_;refine Dp 7 λK r=>?_;refine bo rfl c6 ?_;have b5:ar u A (gn A.drew u (.map bv bt)):=b4.trans c4;have aC:=ao _ b5;generalize gn A.drew u (.map bv bt)=w4 at *;refine r _ _ (λ_=>aC) ?_;clear r K;go_simp;refine Qb [8] aC (λw' h=>h) ?_
     refine Dp 9 λK r=>?_;obtain ⟨E,c7,c2,c5⟩:=c9 w4 (.agg #[J U n,e7 j]) bO;refine aW rfl c7 ?_;have O:ar u A E:=b5.trans c5;have a7:=ao _ O;refine r _ _ (λ_=>a7) ?_;clear r K;go_simp;refine Ds 10 a7 ?_;refine Qb [11] a7 (λw' h=>h) ?_
     have c1:ak pairB E u ((insL ltPK d.ps ((l,q),g,i) (n,j)).map λp=>(p.1,ga p.2)):=c2.perm (iU dt L.ok.ok.ps (λ_ v=>ga v) ((l,q),g,i) (n,j));have hF:=L.put3 O c1 (cb a6.o);have c3:E.cell? ⟨c,3,Y⟩=X kn:=(O.cell (p:=⟨c,3,Y⟩) b0).trans ((aa L.blk 3).trans rfl);have f3:E.frozen? ⟨c,3,Y⟩=false:=(O.frozen (p:=⟨c,3,Y⟩) b0).trans (ab L.blk 3);have HF:=Z hF;have ch:=Z O;clear hF bA aC a7 c2 c1 c7 c5 c4 c9 c6 bO O b4 b5;refine Dl 12 ?_;go_wp2_with fail
     go_ret;rw [b6.o,if_pos a6.o];refine ⟨rfl,I,⟨_,_,_,_,HF.o⟩,?_⟩;have cQ:ag F w F z.drew:=ag.of_below bc.drew;have d0:ag I A I E:=ag.of_only ch.o (L.f3 u rfl);have d1:ag I E I (E.setCell ⟨c,3,Y⟩ (em Y)):=ag.of_only (ar.setCell (ar.refl c E) 3 _) L.fc;exact ((cQ.trans cl.o).trans d0).trans d1
   · have a6:=Z hx;have e3:((dZ d ((l,q),g,i) n j)==0)=false:=by simpa using hx
     generalize dZ d ((l,q),g,i) n j=x at *;go_wp2_with fail
     go_ret;rw [b6.o,if_neg a6.o];exact ⟨rfl,F,⟨_,_,_,_,a4.below (fl _ z).drew⟩,ag.of_below bc.drew⟩
 · have e1:¬(bp (l,q) (g,i)<0):=λhh=>hlt (ce.1 hh);rw [if_neg hlt] at b8;rw [b8.o] at bb b6 cb;generalize bp (l,q) (g,i)=cm at *;clear hlt ce b8;obtain ⟨v0,v1⟩:=cZ (b7 Wp (bn.refl _)).2.1;obtain ⟨v2,v3⟩:=cZ (b7 Wp (bn.refl _)).2.2.1;go_enter func76,ntmps76;go_wp2_with (go_at_call 49;go_loud (((with_reducible refine gd (HC.o _) ?_);rintro e s ⟨rfl,c0⟩;obtain ⟨g0,g1,g2,g3,g4,g5⟩:=b7.o _ c0;have a5:=Z g0;have ad:=Z g3;have G:=Z g4;have ac:=Z g5;have av:=Z g5;clear g0 g1 g2 g3 g4 g5 c0)))
   clear x0 x1 y0 y1 v0 v1 v2 v3;have b3:=λty=>cj.len (G.ps) underlying115 ty;rw [gp] at b3;have au:Hid (∀W,(∀m,C=X m->W.heap[m]? =s.heap[m]?)->(gO 115 (.map C) (.agg #[J U g,J U i,J U l,J U q]) true).run prog W= .ok (.tuple #[.agg #[J U ((findK d.ps ((g,i),l,q)).getD (0,false)).1,e7 ((findK d.ps ((g,i),l,q)).getD (0,false)).2],e7 (findK d.ps ((g,i),l,q)).isSome]) W):=λW hW=>by have:=cj.look_ok (w:=W) (G.ps.block hW) underlying115 gL ((g,i),l,q) bb;rw [fe d.ps ga] at this;refine Eq.trans this ?_;cases findK d.ps ((g,i),l,q)<;>rfl
   have HX:Hid (dZ d ((g,i),l,q) n j=aL (findK d.ps ((g,i),l,q)).isSome (decide (((findK d.ps ((g,i),l,q)).getD (0,false)).1=n)&&decide (((findK d.ps ((g,i),l,q)).getD (0,false)).2=j)) ((findK d.ps ((g,i),l,q)).getD (0,false)).1 n d.ps.length):=rfl;generalize (findK d.ps ((g,i),l,q)).isSome=there at *;generalize (findK d.ps ((g,i),l,q)).getD (0,false)=ov at *;obtain ⟨o1,o2⟩:=ov;dsimp only at au HX;have dy:Hid (d.ps.length=d.ps.length):=rfl;generalize hmany:d.ps.length=many at b3 HX;have HN:Hid (∀W,gs prog 56 #[e7 there,e7 (decide (o1=n)&&decide (o2=j)),J U o1,J U n,J U many] W λe w'=>e=e6 (J U (dZ d ((g,i),l,q) n j))/\W=w'):=λW=>by rw [HX.o];exact gA _ _ _ _ _ W
   have cg:=Z hmany;clear hmany;obtain ⟨p0,p1,p2,p3⟩:=mI a5.o
   have y:s.drew.cell? ⟨c,2,Y⟩=X (.map C)/\s.drew.cell? ⟨f.heap.size,0,Y⟩=X (J U g)/\s.drew.cell? ⟨f.heap.size,1,Y⟩=X (J U i)/\s.drew.cell? ⟨f.heap.size,2,Y⟩=X (J U l)/\s.drew.cell? ⟨f.heap.size,3,Y⟩=X (J U q)/\(∀m,C=X m->s.drew.heap[m]? =s.heap[m]?):=
    ⟨(aa G.blk 2).trans rfl,p0,p1,p2,p3,λ_ _=>rfl⟩
   clear p0 p1 p2 p3
   have al:Hid (∀W,Bw s W->W.cell? ⟨c,2,Y⟩=X (.map C)/\W.cell? ⟨f.heap.size,0,Y⟩=X (J U g)/\W.cell? ⟨f.heap.size,1,Y⟩=X (J U i)/\W.cell? ⟨f.heap.size,2,Y⟩=X (J U l)/\W.cell? ⟨f.heap.size,3,Y⟩=X (J U q)/\(∀m,C=X m->W.heap[m]? =s.heap[m]?)):=λW D=>
    ⟨fk D _ _ y.1,fk D _ _ y.2.1,fk D _ _ y.2.2.1,fk D _ _ y.2.2.2.1,fk D _ _ y.2.2.2.2.1,λm hm=>D.block m (G.lt m (G.f3 m hm))⟩
   refine wT (λW=>W.cell? ⟨c,2,Y⟩=X (.map C)/\W.cell? ⟨f.heap.size,0,Y⟩=X (J U g)/\W.cell? ⟨f.heap.size,1,Y⟩=X (J U i)/\W.cell? ⟨f.heap.size,2,Y⟩=X (J U l)/\W.cell? ⟨f.heap.size,3,Y⟩=X (J U q)/\(∀m,C=X m->W.heap[m]? =s.heap[m]?)) 11 ?_;refine Qb [0,4,1,2,3] y (λw' h=>h) ?_;refine tk 5 ?_ rfl y ?_ ?_;rotate_left;intro w' h;obtain ⟨V,R,T,h3,h4,M⟩:=h;have hl:=au w' M;go_simp;rfl;try go_simp
   refine Qb [6,7,8] y (λw' h=>h) ?_;refine Dp 9 λK r=>?_;go_simp;have bY:∀o,Bw s (s.drew.alloc o):=λo=>(fl _ s).drew.alloc (es _) o;refine r _ _ (λ_=>al _ (bY _)) ?_;clear r K;refine Dp 10 λK r=>?_;go_simp;have aT:∀o,Bw s (s.alloc o).drew:=λo=>((fl _ s).alloc (es _) o).drew;refine r _ _ (λ_=>al _ (aT _)) ?_;clear r K;refine Dl 11 ?_;obtain ⟨z,a8⟩:=Qe ((s.alloc (e9 #[J U o1,e7 o2] 139)).drew);have bw:z.heap[s.heap.size]? =X (e9 #[J U o1,e7 o2] 139 (0,0)):=by rw [<- a8];exact eQ s _
   have a3:Bw s z:=by rw [<- a8];exact aT _
   have a4:=Z (G.below a3);have a9:=(a3.block _ (ae a5.o)).trans a5.o;have ay:=(a3.block _ (ae ad.o)).trans ad.o;have bc:Hid (Bw w z):=btr ac.o a3 ac.size;have cy:=λty=>cj.len (w:=z.drew) (a4.ps.block (λ_ _=>rfl)) underlying115 ty;rw [gp,cg.o] at cy;rw [a8];clear b3 y al bY aT a8 a3 au G ad ac a5 av;obtain ⟨s0,s1⟩:=cZ bw;obtain ⟨r0,r1⟩:=cZ ay;have e0:z.cell? ⟨c,2,Y⟩=X (.map C):=(aa a4.blk 2).trans rfl;have d5:=Z a9;have bs:=Z ay;clear bw ay a9;go_wp2_with fail
   refine wT (λW=>W=z.drew) 14 ?_;refine Qb [0,1,2,4,6,8,3,5,7,9,10,11] rfl (λw' h=>h) ?_;refine Ds 12 rfl ?_;refine Dp 13 λK r=>?_;go_simp;go_at_call 56;refine (HN _).mono ?_;rintro e w9 ⟨rfl,rfl⟩;refine r _ _ (λ_=>rfl) ?_;clear r K;refine Dl 14 ?_;by_cases hx:dZ d ((g,i),l,q) n j=0
   · have a6:=Z hx;rw [hx];go_wp2_with (go_at_call 57;((with_reducible refine gd (gJ (a4.o.below (fl _ z).drew)) ?_);rintro e A ⟨rfl,I,ma,mb,u,N,y⟩))
     have cP:¬F f.heap.size:=λhf=>by have:=bk.o _ hf;have:=b9.o;omega
     have cz:¬F (w.heap.size+2):=λhf=>by have:=bk.o _ hf;omega
     have cu:f.heap.size<z.drew.heap.size:=ae d5.o;have cq:w.heap.size+2<z.drew.heap.size:=ae bs.o;have aS:=(y.block _ cu cP).trans d5.o;have ax:=(y.block _ cq cz).trans bs.o;have a0:ak pairB A u _:=N.ps;obtain ⟨st,bv,bt,c6,bO,c4,c9⟩:=ak.entry (w:=A.drew) (ak.drew a0) sI underlying115 gL ((g,i),l,q) bb (by rw [gp];have:=N.ok.plen;unfold maxLen;omega);have b0:c≠u:=λe=>(aj a0 N.blk) e.symm;have cs:f.heap.size≠u:=λe=>(aj a0 aS) e.symm;have cp:w.heap.size+2≠u:=λe=>(aj a0 ax) e.symm;have ao:Hid (∀W,ar u A W->W.cell? ⟨c,2,Y⟩=X (er (X u))/\W.cell? ⟨f.heap.size,0,Y⟩=X (J U g)/\W.cell? ⟨f.heap.size,1,Y⟩=X (J U i)/\W.cell? ⟨f.heap.size,2,Y⟩=X (J U l)/\W.cell? ⟨f.heap.size,3,Y⟩=X (J U q)/\W.cell? ⟨w.heap.size+2,0,Y⟩=X (J U n)/\W.cell? ⟨w.heap.size+2,1,Y⟩=X (e7 j)):=λW ho=>by obtain ⟨p0,p1,p2,p3⟩:=mI ((ho.block _ cs).trans aS);obtain ⟨r0,r1⟩:=cZ ((ho.block _ cp).trans ax);exact ⟨(aa ((ho.block c b0).trans N.blk) 2).trans rfl,p0,p1,p2,p3,r0,r1⟩
     have b4:ar u A A.drew:=(ar.refl u A).drew;have bA:=ao _ b4;have L:=Z N;have cl:=Z y;clear N y a0 aS ax;go_wp2_with fail
     refine wT (λW=>W.cell? ⟨c,2,Y⟩=X (er (X u))/\W.cell? ⟨f.heap.size,0,Y⟩=X (J U g)/\W.cell? ⟨f.heap.size,1,Y⟩=X (J U i)/\W.cell? ⟨f.heap.size,2,Y⟩=X (J U l)/\W.cell? ⟨f.heap.size,3,Y⟩=X (J U q)/\W.cell? ⟨w.heap.size+2,0,Y⟩=X (J U n)/\W.cell? ⟨w.heap.size+2,1,Y⟩=X (e7 j)) 12 ?_;refine Qb [0,4,5,6,1,2,3] bA (λw' h=>h) ?_;refine Dp 7 λK r=>?_;refine bo rfl c6 ?_;have b5:ar u A (gn A.drew u (.map bv bt)):=b4.trans c4;have aC:=ao _ b5;generalize gn A.drew u (.map bv bt)=w4 at *;refine r _ _ (λ_=>aC) ?_;clear r K;go_simp;refine Qb [8] aC (λw' h=>h) ?_
     refine Dp 9 λK r=>?_;obtain ⟨E,c7,c2,c5⟩:=c9 w4 (.agg #[J U n,e7 j]) bO;refine aW rfl c7 ?_;have O:ar u A E:=b5.trans c5;have a7:=ao _ O;refine r _ _ (λ_=>a7) ?_;clear r K;go_simp;refine Ds 10 a7 ?_;refine Qb [11] a7 (λw' h=>h) ?_
     have c1:ak pairB E u ((insL ltPK d.ps ((g,i),l,q) (n,j)).map λp=>(p.1,ga p.2)):=c2.perm (iU dt L.ok.ok.ps (λ_ v=>ga v) ((g,i),l,q) (n,j));have hF:=L.put3 O c1 (cb a6.o);have c3:E.cell? ⟨c,3,Y⟩=X kn:=(O.cell (p:=⟨c,3,Y⟩) b0).trans ((aa L.blk 3).trans rfl);have f3:E.frozen? ⟨c,3,Y⟩=false:=(O.frozen (p:=⟨c,3,Y⟩) b0).trans (ab L.blk 3);have HF:=Z hF;have ch:=Z O;clear hF bA aC a7 c2 c1 c7 c5 c4 c9 c6 bO O b4 b5;refine Dl 12 ?_;go_wp2_with fail
     go_ret;rw [b6.o,if_pos a6.o];refine ⟨rfl,I,⟨_,_,_,_,HF.o⟩,?_⟩;have cQ:ag F w F z.drew:=ag.of_below bc.drew;have d0:ag I A I E:=ag.of_only ch.o (L.f3 u rfl);have d1:ag I E I (E.setCell ⟨c,3,Y⟩ (em Y)):=ag.of_only (ar.setCell (ar.refl c E) 3 _) L.fc;exact ((cQ.trans cl.o).trans d0).trans d1
   · have a6:=Z hx;have e3:((dZ d ((g,i),l,q) n j)==0)=false:=by simpa using hx
     generalize dZ d ((g,i),l,q) n j=x at *;go_wp2_with fail
     go_ret;rw [b6.o,if_neg a6.o];exact ⟨rfl,F,⟨_,_,_,_,a4.below (fl _ z).drew⟩,ag.of_below bc.drew⟩
theorem rE (F:Nat->Prop) (w:ft) (c:Nat) (d:aq) (h:be F w c d) (a b:RK) (n:Int) (r:rkOk a) (s:rkOk b) (t:i64B n):
 gs prog 39 #[em (X ⟨c,0,Y⟩),recK a,recK b,J U n] w λe w'=>e=e6 (J U (decideC d a b n false).2)/\∃g,be g w' c (decideC d a b n false).1/\ag F w g w':=by
 have i:∀o f,Bw w ((w.alloc o).alloc f):=λo f=>((fl _ w).alloc (es _) o).alloc (by simp) f;have l:=Z (λo f=>nt F ((w.alloc o).alloc f) c d (h.below (i o f)) a b n false r s t);have k:=Z i;clear h i;obtain ⟨u,v⟩:=a;obtain ⟨x,y⟩:=b;unfold recK ga at *;dsimp only at *;go_enter func39,ntmps39;go_wp2_with (go_at_call 76;((with_reducible refine gd (l.o _ _) ?_);rintro e z ⟨rfl,j⟩;have m:=Z j;clear j))
 go_ret;obtain ⟨g,p,q⟩:=m.o;exact ⟨rfl,g,p,(ag.of_below (k _ _)).trans q⟩
theorem ua (F:Nat->Prop) (w:ft) (c:Nat) (d:aq) (h:be F w c d) (a b:RK) (n:Int) (r:rkOk a) (s:rkOk b) (t:i64B n):
 gs prog 40 #[em (X ⟨c,0,Y⟩),recK a,recK b,J U n] w λe w'=>e=e6 (J U (decideC d a b n true).2)/\∃g,be g w' c (decideC d a b n true).1/\ag F w g w':=by
 have i:∀o f,Bw w ((w.alloc o).alloc f):=λo f=>((fl _ w).alloc (es _) o).alloc (by simp) f;have l:=Z (λo f=>nt F ((w.alloc o).alloc f) c d (h.below (i o f)) a b n true r s t);have k:=Z i;clear h i;obtain ⟨u,v⟩:=a;obtain ⟨x,y⟩:=b;unfold recK ga at *;dsimp only at *;go_enter func40,ntmps40;go_wp2_with (go_at_call 76;((with_reducible refine gd (l.o _ _) ?_);rintro e z ⟨rfl,j⟩;have m:=Z j;clear j))
 go_ret;obtain ⟨g,p,q⟩:=m.o;exact ⟨rfl,g,p,(ag.of_below (k _ _)).trans q⟩
end
end Go.Proofs.YtjcimanddakkaaaGreatDoor
