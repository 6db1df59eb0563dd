/- Lemmas. -/
import Derived.Test.YtjcimanddakkaaaGreatDoorQ2
import Derived.RangeFuncNested
import Derived.RangeFuncBound
import Derived.Shelf.RegionOpen
import Derived.OwnWalkIn
import Derived.LoopNIn
import Derived.LoopIn
import Derived.StillTailTactics
import Derived.DeepKeys4
set_option maxRecDepth 100000
set_option maxHeartbeats 8000000
namespace Go.Proofs.YtjcimanddakkaaaGreatDoor
open Go.Ending renaming returned→e4
open Go.Value renaming bool→e5,int→J,slice→e6,pointer→e9,map→ee
open _root_.Option renaming some→X,none→Y
open Go.IntKind renaming i64→U,u8→e8
open Go.Obj renaming cells→e7
open Go.Lib renaming hid→Z
open Tryz
open _root_.Nat renaming le_refl→ej,zero_le→gP,zero_add→g7
open Go.World renaming alloc_heap_new→em,putObj_heap_other→fp,size_alloc→fx,size_setCell→gd,ownsRow_nil→gQ,putObj_heap_same→hi
open Go.RowKit.Below renaming refl→er,heap_alloc→es,heap_setCell→eQ
open Go renaming World→fl,Value→ft,Calls→gi,rounds_succ→gx,KeepsOthers→gz,grownBy_putObj'→gO,TypeId→g6,Program→hD,wp_loop_rounds→hE
open _root_.List renaming take_succ_eq_append_getElem→fr,take_of_length_le→fz,length_map→gc,flatMap_cons→gn,length_cons→gq,getElem_mem→gs,nil_append→g8,map_cons→hv,length_append→hI
open Go.Calls renaming mono→fy
open Go.ChangeMaps renaming setBlock→gb
open Go.Program renaming keyLits→gp
open Go.Instr renaming lookup→gt
open Go.Lib renaming run_eql_slice_nil→gy
open _root_.Ne renaming symm→g9
open _root_.Int renaming tdiv_eq_ediv_of_nonneg→hd
open _root_.Prod renaming ext→ht
open Go.Value renaming int→hC
open _root_.Option renaming isSome_none→hG,getD_none→hH
section
open Go.RowKit Go.Shelf
structure cS (B:Nat) (M:Nat->Prop) (X:fl) (M':Nat->Prop) (Y:fl):Prop where
 os:Y.os=X.os
 tape:Y.tape=X.tape
 output:Y.output=X.output
 size:X.heap.size<=Y.heap.size
 block:∀k,k<X.heap.size->¬M k->(B<=k->∀o,X.heap[k]? =some o->o.isCells=true)->Y.heap[k]? =X.heap[k]?
 new:∀k,M' k->M k∨X.heap.size<=k
 lt:∀k,M' k->k<Y.heap.size
def ij {α:Type} (B:Nat) (I:(Nat->Prop)->List α->fl->Prop):Prop:=∀M s b a c,I M s b->cS B M b a c->I a s c
def mW (M:Nat->Prop) (a b:fl):Prop:=∀k,M k->b.heap[k]? =a.heap[k]?
section
variable {F:Fence} {n:Nat} {P:hD}
def iE {α:Type} (F:Fence) (n:Nat) (P:hD) (g:Nat) (lb:Array ft) (i:α->Array ft) (S h:List α->Prop) (G:List α->α->Prop) (f:Nat->Prop) (j:fl):Prop:=
 ∀(l:Nat) (J Jx:(Nat->Prop)->List α->fl->Prop) (W:fl),Bw j W->ij W.heap.size J->
  (∀M b x c,J M b c->G b x->YieldAt F (n - 1) P l (i x) c λe a=>
   (e=e4 (e5 true)/\J M (b++[x]) a/\mW M c a/\gz c a)∨(e=e4 (e5 false)/\Jx M (b++[x]) a))->
  J f [] W->
  CallsIn F n P g (#[.func (.yield l) #[] #[]]++lb) W λe a=>(∃v,e=e4 v)/\((∃M d,S d/\J M d a)∨(∃M b,h b/\Jx M b a))
def BS {α:Type} (M:Nat->Prop) (I:(Nat->Prop)->List α->fl->Prop) (b:Code->(Nat->Prop)->List α->fl->Prop) (a:List α) (W:fl):Exit->Act->fl->Prop
 | .normal,_,W'=>gz W W'/\mW M W W'/\I M a W'
 | .ret,_,W'=>gz W W'/\b .ret M a W'
 | .exit id,_,W'=>gz W W'/\b (.exit id) M a W'
 | .goto t,_,W'=>gz W W'/\b (.goto t) M a W'
 | .panic _,_,_=>False
 | .outgrown,_,_=>False
theorem cS.put {B:Nat} {M:Nat->Prop} {a:fl} (d:∀k,M k->k<a.heap.size) (l:Nat) (g:B<=l) (o b:Obj) (i:a.heap[l]? =X o) (f:o.isCells=false):cS B M a M (a.putObj l b):=
 ⟨rfl,rfl,rfl,(gO a l b).size,λk c _ h=>fp (λe=>by subst e;have:=h g o i;rw [f] at this;cases this),λ_ h=> .inl h,λk c=>Nat.lt_of_lt_of_le (d k c) (gO a l b).size⟩
theorem cS.alloc {B:Nat} {M:Nat->Prop} {a:fl} (c:∀k,M k->k<a.heap.size) (o:Obj):cS B M a M (a.alloc o):=
 ⟨rfl,rfl,rfl,by simp,λk b _ _=>es a o k b,λ_ h=> .inl h,λk b=>by have:=c k b;simp;omega⟩
theorem lz {α:Type} {g:Operand} {ps:Array Tmp} {assign body:Code} {Q:Exit->Act->fl->Prop} {a:Act} {w:fl}
 (b8:F.round=Y) (h1:1<=n) {gf:Nat} {lb:Array ft} (hg:a.eval g= .func (.func gf) #[] lb) (ac:F.fn gf) (eg:∀args w,(callFunc gf args).run P w= .ok (.enter gf args) w)
 {a0:α->Array ft} {S Sp:List α->Prop} {G:List α->α->Prop} {M0:Nat->Prop} {w0:fl} (b9:iE F (n - 1) P gf lb a0 S Sp G M0 w0) (a4:∀k,M0 k->k<w.heap.size) (a7:Bw w0 w) (b7:∀x,(a0 x).size=ps.size)
 (I:(Nat->Prop)->List α->fl->Prop) (Ix:Code->(Nat->Prop)->List α->fl->Prop) (O:ij w.heap.size I) (a2:∀c,ij w.heap.size (Ix c)) (a6:∀M s C,I M s C->∀k,M k->k<C.heap.size) (a5:∀c M s C,Ix c M s C->∀k,M k->k<C.heap.size)
 (h0:I M0 [] w) (a₁:α->Act)
 (ax:∀(l:Nat) (x:α) (W:fl) (K:Act->fl->Prop),K (a₁ x) W->
  assign.wpIn (F.inRound l) (n - 1 - 1) P (Exit.then K (λ_ _ _=>False)) {tmps:=(ps.zip (a0 x)).foldl (λt (p,v)=>t.setIfInBounds p v) a.tmps,defers:=[]} W)
 (aC:∀(l:Nat) (M:Nat->Prop) (f:List α) (x:α) (W:fl),I M f W->G f x->body.wpIn (F.inRound l) (n - 1 - 1) P (BS M I Ix (f++[x]) W) (a₁ x) W)
 (aS:∀(D:Nat) (M:Nat->Prop) (xs:List α) (W:fl),w.heap.size<=D->S xs->I M xs W->W.heap[D]? =X (.deferred (X []))->Q .normal {a with defers:={target:= .collected D,args:= #[]}::a.defers} W)
 (bb:∀(D:Nat) (c:Code) (M:Nat->Prop) (f:List α) (W:fl),w.heap.size<=D->Sp f->Ix c M f W->W.heap[D]? =X (.deferred (X []))->c.wpIn F n P Q {a with defers:={target:= .collected D,args:= #[]}::a.defers} W):
 (Code.rangeFunc g ps assign body).wpIn F n P Q a w:=by
 refine wpIn_rangeFunc ?_;intro fn aT;rw [b8];obtain ⟨rec,A⟩:∃rec:LoopState->Option Code->Loop,rec=λst pe=>{state:=st,pending:=pe,fn,tmps:=a.tmps,params:=ps,assign,body,defers:=w.heap.size}:=⟨_,rfl⟩;obtain ⟨r,R⟩:=Qe ((w.alloc (.deferred (X []))).alloc (.loop (rec .ready Y)));have ao:r.heap[w.heap.size+1]? =X (.loop (rec .ready Y)):=by rw [<- R];have:=em (w.alloc (.deferred (X []))) (.loop (rec .ready Y));rwa [fx] at this
 have al:r.heap[w.heap.size]? =X (.deferred (X [])):=by rw [<- R];exact (es _ _ _ (by simp)).trans (em w _)
 have ad:I M0 [] r:=by rw [<- R];exact O _ _ _ _ _ (O _ _ _ _ _ h0 (cS.alloc a4 _)) (cS.alloc (λk b=>by have:=a4 k b;simp;omega) _)
 have bc:r.heap.size=w.heap.size+2:=by rw [<- R];simp
 have ay:Bw w0 r:=by rw [<- R];exact a7.trans ((((er _ w).alloc (ej _) _).alloc (by simp) _).mono a7.size)
 refine ⟨w.heap.size+1,[{target:= .collected w.heap.size,args:= #[]}],r,{target:= .fn (.func gf) lb,args:= #[.func (.yield (w.heap.size+1)) #[] #[]]},r,gf,
  #[.func (.yield (w.heap.size+1)) #[] #[]]++lb,r,?_,?_,?_,?_,λ_=>h1,?_⟩
 · rw [<- R,A];exact run_enterLoop_outer _ _ _ _ _
 · simp only [resolve,hg];simp [go_sem]
 · intro f' a8;simp [Target.leads] at a8;subst a8;exact ac
 · simp [invoke,go_sem,eg]
 · refine (b9 (w.heap.size+1)
    (λM f W=>I M f W/\¬M (w.heap.size+1)/\¬M w.heap.size/\W.heap[w.heap.size+1]? =X (.loop (rec .ready Y))/\W.heap[w.heap.size]? =X (.deferred (X [])))
    (λM f W=>∃c,Ix c M f W/\W.heap[w.heap.size+1]? =X (.loop (rec .done (X c)))/\W.heap[w.heap.size]? =X (.deferred (X [])))
    r ay
    (λM s C M' a9 hs y=>by
     obtain ⟨z,V,n2,d,b⟩:=hs
     have b3:w.heap.size+1<C.heap.size:=(Array.getElem?_eq_some_iff.1 d).1
     have hT:cS w.heap.size M C M' a9:=⟨y.os,y.tape,y.output,y.size,λk b h2 h3=>y.block k b h2 λhB o L=>h3 (by omega) o L,y.new,y.lt⟩
     exact ⟨O _ _ _ _ _ z hT,λh=>by rcases y.new _ h with h|h;exact V h;omega,λh=>by rcases y.new _ h with h|h;exact n2 h;omega,
      (y.block _ b3 V (λhB=>by omega)).trans d,(y.block _ (by omega) n2 (λhB=>by omega)).trans b⟩)
    ?_ ⟨ad,λh=>by have:=a4 _ h;omega,λh=>by have:=a4 _ h;omega,ao,al⟩).mono ?_
   ·
    rintro M f x W ⟨z,V,n2,d,b⟩ b5
    have b6:w.heap.size+1<W.heap.size:=(Array.getElem?_eq_some_iff.1 d).1
    have hy:=run_yield (P:=P) (args:=a0 x) d (by rw [A];exact b7 x)
    rw [A] at hy
    refine ⟨fn,_,assign,body,hy,roundIn_of_wpIn aT (ax _ x W _ ⟨_,run_beginRound d (by rw [A]),?_⟩)⟩
    have b4:(W.putObj (w.heap.size+1) (.loop {rec .ready Y with state:= .busy})).heap[w.heap.size+1]? =X (.loop {rec .ready Y with state:= .busy}):=hi b6
    have b1:(W.putObj (w.heap.size+1) (.loop {rec .ready Y with state:= .busy})).heap[w.heap.size]? =X (.deferred (X [])):=(fp (by omega)).trans b
    have au:=a6 _ _ _ z
    have b0:=O _ _ _ _ _ z (cS.put au (w.heap.size+1) (by omega) _ (.loop {rec .ready Y with state:= .busy}) d rfl)
    refine wpIn_mono (aC _ M f x _ b0 b5) ?_
    have a1:∀(q:Option Code) (i:fl),gz (W.putObj (w.heap.size+1) (.loop {rec .ready Y with state:= .busy})) i->
     (Instr.endRound (w.heap.size+1) q).run P i= .ok (e5 q.isNone) (i.putObj (w.heap.size+1) (.loop (rec (if q.isNone then .ready else .done) q)))/\
     i.heap[w.heap.size+1]? =X (.loop {rec .ready Y with state:= .busy})/\
     (i.putObj (w.heap.size+1) (.loop (rec (if q.isNone then .ready else .done) q))).heap[w.heap.size+1]? =X (.loop (rec (if q.isNone then .ready else .done) q))/\
     (i.putObj (w.heap.size+1) (.loop (rec (if q.isNone then .ready else .done) q))).heap[w.heap.size]? =X (.deferred (X [])):=λq i j=>by
     have m:=j.same _ _ b4 rfl
     have:=run_endRound (P:=P) q m
     rw [A] at this ⊢
     exact ⟨this,by rw [A] at m;exact m,hi (Array.getElem?_eq_some_iff.1 m).1,(fp (by omega)).trans (j.same _ _ b1 rfl)⟩
    rintro e a3 i T
    cases e with
    |normal=>
     obtain ⟨j,b2,u⟩:=T
     obtain ⟨N,m,E,H⟩:=a1 Y i j
     refine ⟨_,_,N, .inl ⟨rfl,⟨O _ _ _ _ _ u (cS.put (a6 _ _ _ u) _ (by omega) _ _ m rfl),V,n2,E,H⟩,λk b=>?_,?_⟩⟩
     · have e1:k≠w.heap.size+1:=λe=>V (e ▸ b)
       exact ((fp (by omega)).trans (b2 k b)).trans (fp (by omega))
     · refine ⟨Nat.le_trans (Nat.le_trans (gO W (w.heap.size+1) _).size j.size) (gO i (w.heap.size+1) _).size,λk o L hc=>?_⟩
       by_cases e1:k=w.heap.size+1
       · subst e1
         rw [d] at L
         injection L with L
         subst L
         exact E
       · exact (fp (by omega)).trans (j.same k o ((fp (by omega)).trans L) hc)
    |ret=>
     obtain ⟨j,u⟩:=T
     obtain ⟨N,m,E,H⟩:=a1 (X .ret) i j
     exact ⟨_,_,N, .inr ⟨rfl, .ret,a2 _ _ _ _ _ _ u (cS.put (a5 _ _ _ _ u) _ (by omega) _ _ m rfl),E,H⟩⟩
    |exit id=>
     obtain ⟨j,u⟩:=T
     obtain ⟨N,m,E,H⟩:=a1 (X (.exit id)) i j
     exact ⟨_,_,N, .inr ⟨rfl, .exit id,a2 _ _ _ _ _ _ u (cS.put (a5 _ _ _ _ u) _ (by omega) _ _ m rfl),E,H⟩⟩
    |goto t=>
     obtain ⟨j,u⟩:=T
     obtain ⟨N,m,E,H⟩:=a1 (X (.goto t)) i j
     exact ⟨_,_,N, .inr ⟨rfl, .goto t,a2 _ _ _ _ _ _ u (cS.put (a5 _ _ _ _ u) _ (by omega) _ _ m rfl),E,H⟩⟩
    |panic ch=>exact T.elim
    |outgrown=>exact T.elim
   ·
    rintro e W2 ⟨⟨v,rfl⟩,(⟨M,xs,hS,z,V,n2,d,b⟩|⟨M,f,av,c,z,d,b⟩)⟩
    · exact ⟨Y,_,by have:=run_endLoop (P:=P) d (by rw [A];simp);rw [A] at this;exact this,aS _ M xs _ (ej _) hS (O _ _ _ _ _ z (cS.put (a6 _ _ _ z) _ (by omega) _ _ d rfl)) ((fp (by omega)).trans b)⟩
    · exact ⟨X c,_,by have:=run_endLoop (P:=P) d (by rw [A];simp);rw [A] at this;exact this,bb _ c M f _ (ej _) av (a2 c _ _ _ _ _ z (cS.put (a5 _ _ _ _ z) _ (by omega) _ _ d rfl)) ((fp (by omega)).trans b)⟩
end
end
section
open Go.RowKit Go.Shelf
section
variable {P:hD} {ops:Array Oper} {Q:Exit->Act->fl->Prop}
theorem rA {n:Nat} {a:String} {args:Array ft} {w:fl} {R:ft->fl->Prop} (h:Rows P a args w R):RowsIn Fence.wide n P a args w R:=
 λc cs _=>let ⟨v,w',r,s⟩:=h c cs;⟨v,w',r,stepsIn_wide.2 s⟩
theorem tv {n l:Nat} (b:1<=n) {o:Oper} {a:Act} {K:Act->fl->Prop} {r:Result Next} (h:o.upon P a K Q r):o.uponIn (Fence.wide.inRound l) n P a K Q r:=by
 cases r with
 |ok x w'=>
  cases x<;>simp only [Oper.upon,Oper.uponIn] at h ⊢ <;>
   first
    |exact h
    |exact ⟨λ_=>b,CallsIn.inRound l (callsIn_wide.2 h)⟩
    |exact ⟨λ_=>b,rA h⟩
 |halt x w'=>cases x<;>simp only [Oper.upon,Oper.uponIn] at h ⊢ <;>exact h
def li (ops:Array Oper):Bool:=ops.toList.all λo=>match o.op with | .defer _=>false|_=>true
theorem pN (h:li ops=true) {i:Nat} {o:Oper} (a:ops[i]? =X o):∀c,o.op≠ .defer c:=λc e=>by
 unfold li at h;rw [List.all_eq_true] at h;have h1:o∈ops.toList:=by rw [<- Array.getElem?_toList] at a;exact List.mem_of_getElem? a
 have:=h o h1;rw [e] at this;cases this
theorem xX {n l:Nat} (k:1<=n) {e:Region.Mode} (g:li ops=true) (m:¬LetsOut Q):∀(c:Nat) (d:Array Bool) (a:Act) (w:fl),
 wpAny P e ops Q c d a w->wpAnyIn (Fence.wide.inRound l) n P e ops Q c d a w:=by
 intro c;induction c with
 |zero=>intro d a w h;exact h
 |succ c ih=>
  rintro d a w ⟨f,h1⟩;refine ⟨f,λi j=>?_⟩;have b:=h1 i j;unfold wpOp at b;unfold wpOpIn;cases ho:ops[i]? with
  |none=>rw [ho] at b;exact ih _ _ _ b
  |some o=>
   rw [ho] at b;simp only at b ⊢;by_cases hw:Region.wanted o (yielded ops a.tmps)=true
   · rw [if_pos hw] at b ⊢;refine ⟨λ_ _=>trivial,?_⟩;rw [Oper.semAt_eq _ _ _ (pN g ho)];rcases b with b|b
     · exact tv k (Oper.wp_mono (λa w=>ih _ a w) b)
     · exact absurd b.2 m
   · rw [if_neg hw] at b ⊢;exact ⟨λ_ _=>trivial,ih _ _ _ b⟩
theorem nc {id m l:Nat} {b:List Oper} {a:Act} {w:fl} (S:fl->Prop) (z:Nat) (d:P.follows .mixedOrders=true) (h1:1<=m) (c:li b.toArray=true) (e:¬LetsOut Q)
 (h:anyT P .any b.toArray Q S z b.toArray.size (Array.replicate b.toArray.size false) a w.drew):(Code.region id b.toArray true).wpIn (Fence.wide.inRound l) m P Q a w:=
 wpIn_region_any d (xX h1 c e _ _ _ _ (mO _ _ _ _ h))
end
end
section
open Go.RowKit Go.Maps Go.Shelf
theorem BT (b:Nat) (x y:Int) (w:fl) (a:w.cell? ⟨b,0,Y⟩=X (J U x)) (c1:w.cell? ⟨b,1,Y⟩=X (J U y)):
 gi prog 90 #[e6 (X ⟨b,0,Y⟩) 2 2] w λe w'=>e=e4 (J U (if x≠0 then x else y))/\w=w':=by
 by_cases hx:x=0
 · subst hx;by_cases hy:y=0
   · subst hy;go_enter func90,ntmps90;go_wp2;refine hE 3 ?_;rw [gx];go_wp2;rw [gx];go_wp2;rw [gx];go_wp2;go_ret;exact ⟨rfl,rfl⟩
   · go_enter func90,ntmps90;go_wp2;refine hE 3 ?_;rw [gx];go_wp2;rw [gx];go_wp2;go_ret;exact ⟨rfl,rfl⟩
 · rw [if_pos hx];go_enter func90,ntmps90;go_wp2;refine hE 3 ?_;rw [gx];go_wp2;go_ret;exact ⟨rfl,rfl⟩
theorem vB (W:fl) (x y:ft) (t n:Nat) (h:W.heap.size=n):(W.alloc (e7 #[x,y] t)).drew.cell? ⟨n,0,Y⟩=X x/\(W.alloc (e7 #[x,y] t)).drew.cell? ⟨n,1,Y⟩=X y:=by
 subst h;have h1:(W.alloc (e7 #[x,y] t)).heap[W.heap.size]? =X (e7 #[x,y] t (0,0)):=em W _;exact ⟨(aa h1 0).trans rfl,(aa h1 1).trans rfl⟩
def recK (a:RK):ft:= .agg #[J U a.1,J U a.2]
theorem jC (a b:RK) (w:fl):gi prog 25 #[recK a,recK b] w λe w'=>e=e4 (e5 (ltRK a b))/\Bw w w':=by
 obtain ⟨c,f⟩:=a;obtain ⟨d,g⟩:=b;unfold recK ltRK;dsimp only;by_cases h:c=d
 · subst h;go_enter func25,ntmps25;go_wp2;go_ret;exact ⟨an (by simp),((er _ w).alloc (ej _) _).alloc (by simp) _⟩
 · have i:(c==d)=false:=by simpa using h
   go_enter func25,ntmps25;go_wp2;go_ret;exact ⟨an (by simp [h]),((er _ w).alloc (ej _) _).alloc (by simp) _⟩
theorem fa (a b:RK) (w:fl):gi prog 49 #[recK a,recK b] w λe w'=>e=e4 (J U (br a b))/\bo w w':=by
 obtain ⟨g,i⟩:=a;obtain ⟨j,k⟩:=b;unfold recK br;dsimp only;have v:Hid (∀(x y:Int) (W:fl),gi prog 91 #[J U x,J U y] W λe w'=>e=e4 (J U (fq x y))/\W=w'):=jh;have G:Hid (∀(b:Nat) (x y:Int) (w:fl),w.cell? ⟨b,0,Y⟩=X (J U x)->w.cell? ⟨b,1,Y⟩=X (J U y)->gi prog 90 #[e6 (X ⟨b,0,Y⟩) 2 2] w λe w'=>e=e4 (J U (if x≠0 then x else y))/\w=w'):=BT;generalize hp:fq g j=p;generalize hq:fq i k=q;have H:=Z hp;have I:=Z hq;clear hp hq;go_enter func49,ntmps49;go_wp2;have L:(w.alloc (e7 #[J U g,J U i] 36)).heap.size=w.heap.size+1:=by simp
 obtain ⟨c,l⟩:=Qe ((w.alloc (e7 #[J U g,J U i] 36)).alloc (e7 #[J U j,J U k] 36));have m:c.heap[w.heap.size]? =X (e7 #[J U g,J U i] 36 (0,0)):=by rw [<- l,es _ _ _ (by simp)];exact em w _
 have r:c.heap[w.heap.size+1]? =X (e7 #[J U j,J U k] 36 (0,0)):=by rw [<- l];have:=em (w.alloc (e7 #[J U g,J U i] 36)) (e7 #[J U j,J U k] 36);rwa [fx] at this
 have f:c.drew.cell? ⟨w.heap.size,0,Y⟩=X (J U g)/\c.drew.cell? ⟨w.heap.size,1,Y⟩=X (J U i)/\c.drew.cell? ⟨w.heap.size+1,0,Y⟩=X (J U j)/\c.drew.cell? ⟨w.heap.size+1,1,Y⟩=X (J U k):=
  ⟨(aa m 0).trans rfl,(aa m 1).trans rfl,(aa r 0).trans rfl,(aa r 1).trans rfl⟩
 have z:∀o,(c.alloc o).drew.cell? ⟨w.heap.size,0,Y⟩=X (J U g)/\(c.alloc o).drew.cell? ⟨w.heap.size,1,Y⟩=X (J U i)/\(c.alloc o).drew.cell? ⟨w.heap.size+1,0,Y⟩=X (J U j)/\(c.alloc o).drew.cell? ⟨w.heap.size+1,1,Y⟩=X (J U k):=λo=>
  ⟨(aV c o _ _ (ae m)).trans f.1,(aV c o _ _ (ae m)).trans f.2.1,(aV c o _ _ (ae r)).trans f.2.2.1,(aV c o _ _ (ae r)).trans f.2.2.2⟩
 have A:bo w c:=by rw [<- l];exact ((bo.refl w).alloc _).alloc _
 have C:c.heap.size=w.heap.size+2:=by rw [<- l];simp
 have E:=Z A;rw [l];clear m r l L A;refine wT (λW=>W.cell? ⟨w.heap.size,0,Y⟩=X (J U g)/\W.cell? ⟨w.heap.size,1,Y⟩=X (J U i)/\W.cell? ⟨w.heap.size+1,0,Y⟩=X (J U j)/\W.cell? ⟨w.heap.size+1,1,Y⟩=X (J U k)) 12 ?_;refine tk 0 ?_ rfl f ?_ ?_;rotate_left;intro w' h;go_simp;rfl;refine tk 1 ?_ rfl f ?_ ?_;rotate_left;rintro w' ⟨s,h1,t,u⟩;go_simp;rfl;refine tk 2 ?_ rfl f ?_ ?_;rotate_left;intro w' h;go_simp;rfl;refine tk 3 ?_ rfl f ?_ ?_;rotate_left;rintro w' ⟨s,h1,t,u⟩;go_simp;rfl;refine tk 5 ?_ rfl f ?_ ?_;rotate_left;intro w' h;go_simp;rfl;refine tk 6 ?_ rfl f ?_ ?_;rotate_left;rintro w' ⟨s,h1,t,u⟩;go_simp;rfl;refine tk 7 ?_ rfl f ?_ ?_;rotate_left;intro w' h;go_simp;rfl;refine tk 8 ?_ rfl f ?_ ?_;rotate_left;rintro w' ⟨s,h1,t,u⟩;go_simp;rfl;refine Dp 4 λK d=>?_;go_simp;go_at_call 91;refine (v _ _ _).mono ?_;rintro e D ⟨rfl,rfl⟩;rw [H.o];refine d _ _ (λ_=>f) ?_;clear d K;refine Dp 9 λK d=>?_;go_simp;go_at_call 91;refine (v _ _ _).mono ?_;rintro e D ⟨rfl,rfl⟩;rw [I.o];refine d _ _ (λ_=>f) ?_;clear d K;refine Dp 10 λK d=>?_;go_simp;refine d _ _ (λ_=>z _) ?_;clear d K;refine Dp 11 λK d=>?_;go_simp;go_at_call 90;refine (G _ _ _ _ (vB c _ _ _ _ C).1 (vB c _ _ _ _ C).2).mono ?_;rintro e D ⟨rfl,rfl⟩;refine d _ _ (λ_=>z _) ?_;clear d K;refine Dl 12 ?_;go_wp2;all_goals go_ret
 all_goals exact ⟨rfl,(E.alloc _).drew⟩
def pairV (a:PK):ft:= .agg #[J U a.1.1,J U a.1.2,J U a.2.1,J U a.2.2]
def kA (N:Nat) (a b c d e f g h:Int) (W:fl):Prop:=W.cell? ⟨N,0,Y⟩=X (J U a)/\W.cell? ⟨N,1,Y⟩=X (J U b)/\W.cell? ⟨N,2,Y⟩=X (J U c)/\W.cell? ⟨N,3,Y⟩=X (J U d)/\W.cell? ⟨N+1,0,Y⟩=X (J U e)/\W.cell? ⟨N+1,1,Y⟩=X (J U f)/\W.cell? ⟨N+1,2,Y⟩=X (J U g)/\W.cell? ⟨N+1,3,Y⟩=X (J U h)
theorem rN (W:fl) (x y:ft) (t:Nat):(W.alloc (e7 #[x,y] t)).cell? ⟨W.heap.size,0,Y⟩=X x/\(W.alloc (e7 #[x,y] t)).cell? ⟨W.heap.size,1,Y⟩=X y:=by
 have h1:(W.alloc (e7 #[x,y] t)).heap[W.heap.size]? =X (e7 #[x,y] t (0,0)):=em W _;exact ⟨(aa h1 0).trans rfl,(aa h1 1).trans rfl⟩
theorem kX (a b:PK) (w:fl):gi prog 67 #[pairV a,pairV b] w λe w'=>e=e4 (J U (oG a b))/\bo w w':=by
 obtain ⟨⟨f,g⟩,i,j⟩:=a;obtain ⟨⟨l,m⟩,r,s⟩:=b;unfold pairV oG;dsimp only;have HC:Hid (∀(C D E G:Int) (W:fl),gi prog 49 #[.agg #[J U C,J U D], .agg #[J U E,J U G]] W λe w'=>e=e4 (J U (br (C,D) (E,G)))/\bo W w'):=λC D E G=>fa (C,D) (E,G);have HO:Hid (∀(b:Nat) (x y:Int) (w:fl),w.cell? ⟨b,0,Y⟩=X (J U x)->w.cell? ⟨b,1,Y⟩=X (J U y)->gi prog 90 #[e6 (X ⟨b,0,Y⟩) 2 2] w λe w'=>e=e4 (J U (if x≠0 then x else y))/\w=w'):=BT;generalize hp:br (f,g) (l,m)=p;generalize hq:br (i,j) (r,s)=q;have HP:=Z hp;have HQ:=Z hq;clear hp hq;go_enter func67,ntmps67;go_wp2;have ao:(w.alloc (e7 #[J U f,J U g,J U i,J U j] 134)).heap.size=w.heap.size+1:=by simp
 obtain ⟨c,t⟩:=Qe ((w.alloc (e7 #[J U f,J U g,J U i,J U j] 134)).alloc (e7 #[J U l,J U m,J U r,J U s] 134));have T:c.heap[w.heap.size]? =X (e7 #[J U f,J U g,J U i,J U j] 134 (0,0)):=by rw [<- t,es _ _ _ (by simp)];exact em w _
 have V:c.heap[w.heap.size+1]? =X (e7 #[J U l,J U m,J U r,J U s] 134 (0,0)):=by rw [<- t];have:=em (w.alloc (e7 #[J U f,J U g,J U i,J U j] 134)) (e7 #[J U l,J U m,J U r,J U s] 134);rwa [fx] at this
 have a5:bo w c:=by rw [<- t];exact ((bo.refl w).alloc _).alloc _
 have av:c.heap.size=w.heap.size+2:=by rw [<- t];simp
 have u:Hid (∀W,Bw c W->kA w.heap.size f g i j l m r s W):=λW hb=>by have z:=(hb.block _ (ae T)).trans T;have A:=(hb.block _ (ae V)).trans V;exact ⟨(aa z 0).trans rfl,(aa z 1).trans rfl,(aa z 2).trans rfl,(aa z 3).trans rfl,(aa A 0).trans rfl,(aa A 1).trans rfl,(aa A 2).trans rfl,(aa A 3).trans rfl⟩
 have k:kA w.heap.size f g i j l m r s c.drew:=u _ (er _ c).drew;have a9:=Z a5;rw [t];clear T V t ao a5;refine wT (λW=>kA w.heap.size f g i j l m r s W) 12 ?_;refine tk 0 ?_ rfl k ?_ ?_;rotate_left;intro w' h;go_simp;rfl;refine tk 1 ?_ rfl k ?_ ?_;rotate_left;rintro w' ⟨H,h1,I,L,M,N,O,R⟩;go_simp;rfl;refine tk 2 ?_ rfl k ?_ ?_;rotate_left;intro w' h;go_simp;rfl;refine tk 3 ?_ rfl k ?_ ?_;rotate_left;rintro w' ⟨H,h1,I,L,M,N,O,R⟩;go_simp;rfl;refine tk 5 ?_ rfl k ?_ ?_;rotate_left;intro w' h;go_simp;rfl;refine tk 6 ?_ rfl k ?_ ?_;rotate_left;rintro w' ⟨H,h1,I,L,M,N,O,R⟩;go_simp;rfl;refine tk 7 ?_ rfl k ?_ ?_;rotate_left;intro w' h;go_simp;rfl;refine tk 8 ?_ rfl k ?_ ?_;rotate_left;rintro w' ⟨H,h1,I,L,M,N,O,R⟩;go_simp;rfl;refine Dp 4 λK d=>?_;go_simp;go_at_call 49;refine (HC _ _ _ _ _).mono ?_;rintro e w2 ⟨rfl,ad⟩;rw [HP.o];have a7:bo c w2:=(bo.refl c).drew.trans ad;have ac:Bw c w2:=a7.below;refine d _ _ (λ_=>u _ ac) ?_;clear d K;refine Dp 9 λK d=>?_;go_simp;go_at_call 49;refine (HC _ _ _ _ _).mono ?_;rintro e v ⟨rfl,al⟩;rw [HQ.o];have a8:bo c v:=a7.trans al;have a0:Bw c v:=a8.below;refine d _ _ (λ_=>u _ a0) ?_;clear d K;have au:=a0.size;refine Dp 10 λK d=>?_;go_simp;have a6:∀o,Bw c (v.alloc o):=λo=>a0.alloc au o;refine d _ _ (λ_=>u _ (a6 _)) ?_;clear d K;refine Dp 11 λK d=>?_;go_simp;go_at_call 90;refine (HO _ _ _ _ (rN v _ _ _).1 (rN v _ _ _).2).mono ?_;rintro e w4 ⟨rfl,rfl⟩;refine d _ _ (λ_=>u _ (a6 _)) ?_;clear d K;refine Dl 12 ?_;go_wp2;all_goals go_ret
 all_goals exact ⟨rfl,a9.trans (a8.alloc _)⟩
end
section
open Go.RowKit Go.Maps Go.Shelf
open Go.WideMaps (KeyLaw)
theorem mg:laidOutB prog=true:=by kernel_rfl
theorem CP:(36:g6)<prog.types.size:=of_decide_eq_true (by kernel_rfl)
theorem Cg:(134:g6)<prog.types.size:=of_decide_eq_true (by kernel_rfl)
theorem Cf:(211:g6)<prog.types.size:=of_decide_eq_true (by kernel_rfl)
theorem Dd:prog.keyTypeAt 3 36=true:=by kernel_rfl
theorem gX:KeyLaw prog 36:=deep_law_laid mg (m:=3) (by omega) CP Dd (by rw [underlying36])
theorem CU:prog.keyTypeAt 4 134=true:=by kernel_rfl
theorem ut:KeyLaw prog 134:=deep_law_laid mg (m:=4) (by omega) Cg CU (by rw [underlying134])
theorem CT:prog.keyTypeAt 3 211=true:=by kernel_rfl
theorem Ct:KeyLaw prog 211:=deep_law_laid mg (m:=3) (by omega) Cf CT (by rw [underlying211])
def i64B (n:Int):Prop:= -9223372036854775808<=n/\n<=9223372036854775807
def rkOk (a:RK):Prop:=i64B a.1/\i64B a.2
def pkOk (p:PK):Prop:=rkOk p.1/\rkOk p.2
theorem Da {n:Int} (h:i64B n):(Lit.int U n).wf=true:=by
 obtain ⟨h1,a⟩:=h;simp only [Lit.wf,IntKind.min,IntKind.max,IntKind.signed,IntKind.bits];simp;omega
theorem pl:prog.types.size=467:=by kernel_rfl
theorem uM:prog.cellsOf 3=1:=by kernel_rfl
theorem qA:prog.cellsOf 36=2:=by kernel_rfl
theorem sU:prog.cellsOf 134=4:=by kernel_rfl
theorem sT:prog.cellsOf 211=2:=by kernel_rfl
theorem Cv:prog.keyType 36=true:=by kernel_rfl
theorem Bd:prog.keyType 134=true:=by kernel_rfl
theorem Bc:prog.keyType 211=true:=by kernel_rfl
theorem vD (d:Nat) (n:Int) (h:i64B n):prog.keyLits (d+1) 3 [.int .i64 n]=X [.int .i64 n]:=by
 unfold gp;rw [underlying3];simp [Da h]
theorem ul (d:Nat) (a:RK) (h:rkOk a):prog.keyLits (d+2) 36 [.int .i64 a.1, .int .i64 a.2]=X [.int .i64 a.1, .int .i64 a.2]:=by
 unfold gp;rw [underlying36];simp [qA,uM,vD d _ h.1,vD d _ h.2]
theorem AW (d:Nat) (a:RK) (h:rkOk a):prog.keyLits (d+2) 211 [.int .i64 a.1, .int .i64 a.2]=X [.int .i64 a.1, .int .i64 a.2]:=by
 unfold gp;rw [underlying211];simp [sT,uM,vD d _ h.1,vD d _ h.2]
theorem AX (d:Nat) (p:PK) (h:pkOk p):prog.keyLits (d+3) 134 [.int .i64 p.1.1, .int .i64 p.1.2, .int .i64 p.2.1, .int .i64 p.2.2]=X [.int .i64 p.1.1, .int .i64 p.1.2, .int .i64 p.2.1, .int .i64 p.2.2]:=by
 unfold gp;rw [underlying134];simp [sU,qA,ul d _ h.1,ul d _ h.2]
def recB:ez prog 36 RK where
 kv:=recK
 kl a:= .string (keyBytes [.int .i64 a.1, .int .i64 a.2])
 ok:=rkOk
 keyed:=Keyed.of_law gX
 key a h:=by
  unfold keyOf
  rw [underlying36,pl]
  have:=ul 466 a h
  simp only [Cv,recK,Value.cells] at this ⊢
  simp [Value.formed,underlying36,qA,this]
 inj a b h:=by
  unfold recK at h
  injection h with h
  simp at h
  exact ht h.1 h.2
def pairB:ez prog 134 PK where
 kv:=pairV
 kl p:= .string (keyBytes [.int .i64 p.1.1, .int .i64 p.1.2, .int .i64 p.2.1, .int .i64 p.2.2])
 ok:=pkOk
 keyed:=Keyed.of_law ut
 key a h:=by
  unfold keyOf
  rw [underlying134,pl]
  have:=AX 465 a h
  simp only [Bd,pairV,Value.cells] at this ⊢
  simp [Value.formed,underlying134,sU,this]
 inj a b h:=by
  unfold pairV at h
  injection h with h
  simp at h
  exact ht (ht h.1 h.2.1) (ht h.2.2.1 h.2.2.2)
def Cn:ez prog 211 RK where
 kv:=recK
 kl a:= .string (keyBytes [.int .i64 a.1, .int .i64 a.2])
 ok:=rkOk
 keyed:=Keyed.of_law Ct
 key a h:=by
  unfold keyOf
  rw [underlying211,pl]
  have:=AW 466 a h
  simp only [Bc,recK,Value.cells] at this ⊢
  simp [Value.formed,underlying211,sT,this]
 inj a b h:=by
  unfold recK at h
  injection h with h
  simp at h
  exact ht h.1 h.2
end
section
open Go.RowKit Go.Maps Go.Shelf
def recI (n:Int):RK:=(1+n.emod 3,1+(n.tdiv 3).emod 4)
theorem cT {fn:Func} {p:Tmp} {c:g6} (h:fn.results= #[.cell p c]) (b:Array ft) (P:hD) (w:fl):
 (results fn b).run P w=((asAddr (b.getD p undef)).run P w).andThen λa d=>(loadVar c a).run P d:=by
 simp only [results,h];simp [Sem.run_bind,Result.andThen]
theorem pF (n:Int) (w:fl) (k: -9223372036854775808<=n/\n<=9223372036854775807):gi prog 20 #[J U n] w λe w'=>e=e4 (recK (recI n))/\Bw w w':=by
 unfold recI recK;dsimp only;have i:0<=n.emod 3/\n.emod 3<3:=⟨Int.emod_nonneg _ (by omega),Int.emod_lt_of_pos _ (by omega)⟩;have j:0<=(n.tdiv 3).emod 4/\(n.tdiv 3).emod 4<4:=⟨Int.emod_nonneg _ (by omega),Int.emod_lt_of_pos _ (by omega)⟩;have c:Hid (∀W,gi prog 24 #[J U n,J U 3] W λe w'=>e=e4 (J U (n.emod 3))/\W=w'):=λW=>gV n 3 W (by omega) (by omega);have d:Hid (∀W,gi prog 24 #[J U (n.tdiv 3),J U 4] W λe w'=>e=e4 (J U ((n.tdiv 3).emod 4))/\W=w'):=λW=>gV _ 4 W (by omega) (by omega);have l: -4611686018427387904<=n.tdiv 3/\n.tdiv 3<=4611686018427387904:=(by
  rcases Int.le_total 0 n with h|h
  · rw [hd h];omega
  · have f:n.tdiv 3= -((-n).tdiv 3):=by rw [Int.neg_tdiv];omega
    rw [f,hd (by omega)];omega)
 generalize n.emod 3=a at *;generalize (n.tdiv 3).emod 4=b at *;go_enter func20,ntmps20
 go_wp2_with (first
  |(go_at_call 24;((with_reducible refine fy (c.o _) ?_);rintro e g ⟨rfl,rfl⟩))
  |(go_at_call 24;((with_reducible refine fy (d.o _) ?_);rintro e g ⟨rfl,rfl⟩)))
 refine bodyPost_ret (v:= .agg #[J U (1+a),J U (1+b)]) (by rw [cT rfl];go_simp) rfl ?_;exact ⟨rfl,(er _ w).alloc (ej _) _⟩
def rkCells (a:RK):List ft:=[J U a.1,J U a.2]
def eB (lo a:Nat) (w:fl) (v:ft) (l:List RK):Prop:=aB lo a w v l.length (l.flatMap rkCells)
theorem eB.one {lo g:Nat} {w:fl} {v:ft} {l:List RK} (h:eB lo g w v l) (i:Nat) (e:i<l.length):
 ∃b c d,v=e6 (X ⟨b,c,Y⟩) l.length d/\lo<=b/\b<g/\w.cell? ⟨b,c+i * 2,Y⟩=X (J U l[i].1)/\w.cell? ⟨b,c+i * 2+1,Y⟩=X (J U l[i].2):=by
 obtain ⟨a,d,q,h⟩:=h;have p:l.flatMap rkCells≠[]:=by
  cases l with
  |nil=>simp at e
  |cons s l=>simp [rkCells]
 obtain ⟨b,c,o,h1,m,f⟩:=h p;subst o;have j:=cJ rkCells 2 (λ_=>rfl) l i e 0 (by omega);have k:=cJ rkCells 2 (λ_=>rfl) l i e 1 (by omega);exact ⟨b,c,d,q,h1,m,f _ _ j,by rw [Nat.add_assoc];exact f _ _ k⟩
theorem eB.kept {lo a:Nat} {w w':fl} {v:ft} {l:List RK} (h:eB lo a w v l) (k:jq lo a w w'):eB lo a w' v l:=aB.kept h k
theorem cC (u v:ft) (l m:List RK) (w:fl) (s:eB 0 w.heap.size w u l) (t:eB 0 w.heap.size w v m) (hl:l.length<=1000000) (hm:m.length<=1000000):
 gi prog 17 #[u,v] w λe w'=>e=e4 (e5 (decide (l=m)))/\Bw w w':=by
 have E:=Z s;have G:=Z t;obtain ⟨a,c,rfl,_⟩:=s;obtain ⟨O,T,rfl,_⟩:=t;by_cases hlm:l.length=m.length
 · have M:((l.length:Int)!=(m.length:Int))=false:=by simp;omega
   have a5:m.length<=l.length:=by omega
   have a4:l.length<=m.length:=by omega
   have N:=Z hlm;clear hlm;go_enter func17,ntmps17;go_wp2_with fail
   go_loopw [5] (λi wr=>∃k:Nat,k<=l.length/\i=J U k/\Hid (l.take k=m.take k)/\Bw w wr) (λi _=>l.length - (intOf i).toNat)
   case atStart=>exact ⟨0,gP _,rfl,rfl,er _ _⟩
   case round=>
    obtain ⟨k,hk,rfl,j,d⟩:=hrel;by_cases hlt:k<l.length
    · have r:k<m.length:=by omega
      obtain ⟨b,a6,V,f,_,a0,H,c1⟩:=(eB.kept E.o (aX d (ej _))).one k hlt;cases f;obtain ⟨R,a7,W,f,_,a1,I,L⟩:=(eB.kept G.o (aX d (ej _))).one k r;cases f;have a3:(k:Int)<(m.length:Int):=by omega
      have o:Hid (l.take (k+1)=l.take k++[l[k]]/\m.take (k+1)=m.take k++[m[k]]):=⟨fr hlt,fr r⟩;have D:Hid (l=m->l[k]=m[k]):=λh=>by subst h;rfl
      generalize l[k]=p at *;generalize m[k]=q at *;obtain ⟨x,y⟩:=p;obtain ⟨z,A⟩:=q;dsimp only at H c1 I L;have a2:b<wr.heap.size:=by have:=d.size;omega
      by_cases hpq:x=z/\y=A
      · obtain ⟨rfl,rfl⟩:=hpq;go_wp2_with fail
        go_region;go_wp2_with fail
        go_roundw
        case rel=>exact ⟨k+1,by omega,by go_num,by unfold Hid;rw [o.o.1,o.o.2,j.o],d.drew⟩
        case measure=>simp [intOf];omega
      · have g:Hid (l≠m):=λh=>hpq (Prod.mk.inj (D h));by_cases h1:x=z
        · have h2:¬y=A:=λh=>hpq ⟨h1,h⟩;subst h1;clear hpq;go_wp2_with fail
          go_region;go_wp2_with fail
          go_ret;exact ⟨an (by symm;exact decide_eq_false g.o),d.drew⟩
        · clear hpq;go_wp2_with fail
          go_region;go_wp2_with fail
          go_ret;exact ⟨an (by symm;exact decide_eq_false g.o),d.drew⟩
    · have C:Hid (l=m):=by have:=j.o;rw [fz (by omega),fz (by omega)] at this;exact this
      go_wp2_with fail
      go_ret;exact ⟨an (by symm;exact decide_eq_true C.o),d⟩
 · have M:((l.length:Int)!=(m.length:Int))=true:=by simp;omega
   go_enter func17,ntmps17;go_wp2_with fail
   go_ret;exact ⟨an (by symm;exact decide_eq_false (λh=>hlm (by rw [h]))),er _ _⟩
theorem Cx:(prog.info? 123).map (λi=>(i.zero,i.size,i.bytes))=X (X (.agg #[.string ⟨#[]⟩, .string ⟨#[]⟩, .string ⟨#[]⟩,e6 Y 0 0]),4,72):=by kernel_rfl
theorem Bg:(prog.info? 120).map (λi=>(i.zero,i.size,i.bytes))=X (X (.agg #[J e8 0, .string ⟨#[]⟩]),2,24):=by kernel_rfl
theorem i36:(prog.info? 36).map (λi=>(i.zero,i.size,i.bytes))=X (X (.agg #[J U 0,J U 0]),2,16):=by kernel_rfl
theorem xK (v:ft) (n:Nat) (f:List ft) (w:fl) (h:aB 0 w.heap.size w v n f) (g:f.length=n * 4) (h1:∀u∈f,u.oneCell'=true) (T:n<=1000000):
 gi prog 106 #[v] w λe w'=>∃d,e=e4 d/\w'.ownsRow w.heap.size 123 4 d n f/\Bw w w':=by
 have y:=Z h;obtain ⟨a,c,rfl,h⟩:=h;have W:∀(w:fl) (a:Option Addr) (n c:Nat),(binOp .eql 60 (e6 a n c) (e6 Y 0 0)).run prog w= .ok (e5 a.isNone) w:=λw a n c=>gy w 60 _ a n c 0 0 underlying60;cases a with
 |none=>
  have G:f=[]:=by
   rcases f with _|⟨x,f⟩
   · rfl
   · obtain ⟨b,V,A,_⟩:=h (by simp);cases A
  subst G;have E:n=0:=by simp at g;omega
  subst E;clear h h1 g;go_enter func106,ntmps106;go_wp2_with fail
  go_ret;exact ⟨_,rfl,gQ _ _ _ _,er _ _⟩
 |some a=>
  clear h;obtain ⟨M,C,H,I,L⟩:=info_parts Cx;have r:=Z g;have p:=Z h1;have z:Hid (∀o,aB 0 (w.alloc o).heap.size (w.alloc o) (e6 (X a) n c) n f):=λo=>(y.o.kept (λk _ D=>es w o k D)).mono (ej _) (by simp);have t:Hid ((w.alloc (e7 #[] 123)).ownsRow w.heap.size 123 4 (e6 (X ⟨w.heap.size,0,Y⟩) 0 0) 0 []):=dj (em w _) (ej _);clear g h1;go_enter func106,ntmps106;go_wp2_with (at_builtin;refine aF _ rfl _ _ 60 rfl w.heap.size 123 M (.agg #[.string ⟨#[]⟩, .string ⟨#[]⟩, .string ⟨#[]⟩,e6 Y 0 0]) 4 72 underlying60 C H I L rfl (by decide) w.heap.size 0 0 [] rfl t.o _ _ n f rfl (z.o _) r.o p.o (by unfold maxLen;omega) (by omega) (by simp) ?_;intro N O w1 m i R;have s:=Z m;have q:=Z i;clear m i)
  go_ret;refine ⟨_,rfl,?_,?_⟩
  · have:=s.o;rw [g7,g8] at this;exact this
  · exact ((er _ w).alloc (ej _) _).grown q.o (by simp) (λj l=>by injection l with l;omega)
theorem xJ (v:ft) (n:Nat) (f:List ft) (w:fl) (h:aB 0 w.heap.size w v n f) (g:f.length=n * 2) (h1:∀u∈f,u.oneCell'=true) (T:n<=1000000):
 gi prog 107 #[v] w λe w'=>∃d,e=e4 d/\w'.ownsRow w.heap.size 120 2 d n f/\Bw w w':=by
 have y:=Z h;obtain ⟨a,c,rfl,h⟩:=h;have W:∀(w:fl) (a:Option Addr) (n c:Nat),(binOp .eql 121 (e6 a n c) (e6 Y 0 0)).run prog w= .ok (e5 a.isNone) w:=λw a n c=>gy w 121 _ a n c 0 0 underlying121;cases a with
 |none=>
  have G:f=[]:=by
   rcases f with _|⟨x,f⟩
   · rfl
   · obtain ⟨b,V,A,_⟩:=h (by simp);cases A
  subst G;have E:n=0:=by simp at g;omega
  subst E;clear h h1 g;go_enter func107,ntmps107;go_wp2_with fail
  go_ret;exact ⟨_,rfl,gQ _ _ _ _,er _ _⟩
 |some a=>
  clear h;obtain ⟨M,C,H,I,L⟩:=info_parts Bg;have r:=Z g;have p:=Z h1;have z:Hid (∀o,aB 0 (w.alloc o).heap.size (w.alloc o) (e6 (X a) n c) n f):=λo=>(y.o.kept (λk _ D=>es w o k D)).mono (ej _) (by simp);have t:Hid ((w.alloc (e7 #[] 120)).ownsRow w.heap.size 120 2 (e6 (X ⟨w.heap.size,0,Y⟩) 0 0) 0 []):=dj (em w _) (ej _);clear g h1;go_enter func107,ntmps107;go_wp2_with (at_builtin;refine aF _ rfl _ _ 121 rfl w.heap.size 120 M (.agg #[J e8 0, .string ⟨#[]⟩]) 2 24 underlying121 C H I L rfl (by decide) w.heap.size 0 0 [] rfl t.o _ _ n f rfl (z.o _) r.o p.o (by unfold maxLen;omega) (by omega) (by simp) ?_;intro N O w1 m i R;have s:=Z m;have q:=Z i;clear m i)
  go_ret;refine ⟨_,rfl,?_,?_⟩
  · have:=s.o;rw [g7,g8] at this;exact this
  · exact ((er _ w).alloc (ej _) _).grown q.o (by simp) (λj l=>by injection l with l;omega)
theorem zW (v:ft) (n:Nat) (f:List ft) (w:fl) (h:aB 0 w.heap.size w v n f) (g:f.length=n * 2) (h1:∀u∈f,u.oneCell'=true) (T:n<=1000000):
 gi prog 52 #[v] w λe w'=>∃d,e=e4 d/\w'.ownsRow w.heap.size 36 2 d n f/\Bw w w':=by
 have y:=Z h;obtain ⟨a,c,rfl,h⟩:=h;have W:∀(w:fl) (a:Option Addr) (n c:Nat),(binOp .eql 52 (e6 a n c) (e6 Y 0 0)).run prog w= .ok (e5 a.isNone) w:=λw a n c=>gy w 52 _ a n c 0 0 underlying52;cases a with
 |none=>
  have G:f=[]:=by
   rcases f with _|⟨x,f⟩
   · rfl
   · obtain ⟨b,V,A,_⟩:=h (by simp);cases A
  subst G;have E:n=0:=by simp at g;omega
  subst E;clear h h1 g;go_enter func52,ntmps52;go_wp2_with fail
  go_ret;exact ⟨_,rfl,gQ _ _ _ _,er _ _⟩
 |some a=>
  clear h;obtain ⟨M,C,H,I,L⟩:=info_parts i36;have r:=Z g;have p:=Z h1;have z:Hid (∀o,aB 0 (w.alloc o).heap.size (w.alloc o) (e6 (X a) n c) n f):=λo=>(y.o.kept (λk _ D=>es w o k D)).mono (ej _) (by simp);have t:Hid ((w.alloc (e7 #[] 36)).ownsRow w.heap.size 36 2 (e6 (X ⟨w.heap.size,0,Y⟩) 0 0) 0 []):=dj (em w _) (ej _);clear g h1;go_enter func52,ntmps52;go_wp2_with (at_builtin;refine aF _ rfl _ _ 52 rfl w.heap.size 36 M (.agg #[J U 0,J U 0]) 2 16 underlying52 C H I L rfl (by decide) w.heap.size 0 0 [] rfl t.o _ _ n f rfl (z.o _) r.o p.o (by unfold maxLen;omega) (by omega) (by simp) ?_;intro N O w1 m i R;have s:=Z m;have q:=Z i;clear m i)
  go_ret;refine ⟨_,rfl,?_,?_⟩
  · have:=s.o;rw [g7,g8] at this;exact this
  · exact ((er _ w).alloc (ej _) _).grown q.o (by simp) (λj l=>by injection l with l;omega)
theorem xm (ps:List (af×ft)):∀(m i:Nat) (u:ft) (q:af×ft) (a:m<ps.length),i<4->(fieldCells ps[m]).set i u=fieldCells q->(ps.flatMap fieldCells).set (m * 4+i) u=(ps.set m q).flatMap fieldCells:=by
 induction ps with
 |nil=>intro m i u q a;simp at a
 |cons p ps ih=>
  intro m i u q a d b;cases m with
  |zero=> simp only [List.getElem_cons_zero] at b;rw [gn,List.set_append_left _ _ (by simp [fieldCells];omega),Nat.zero_mul,g7,b];rfl
  |succ m=>
   simp only [List.getElem_cons_succ] at b;have c:(fieldCells p).length=4:=by simp [fieldCells]
   rw [gn,List.set_append_right _ _ (by rw [c];omega),c,show (m+1) * 4+i - 4=m * 4+i from by omega,ih m i u q (by simpa using a) d b];rfl
theorem xp (ps:List (af×ft)):∀(m i:Nat) (a:m<ps.length),i<4->(ps.flatMap fieldCells)[m * 4+i]? =(fieldCells ps[m])[i]? :=λm i a b=>by
 rw [cJ fieldCells 4 (λ_=>rfl) ps m a i b]
theorem qj (ps:List (af×ft)):∀u∈ps.flatMap fieldCells,(∀p∈ps,p.2.oneCell'=true)->u.oneCell'=true:=by
 intro u a c;obtain ⟨p,b,a⟩:=List.mem_flatMap.1 a;simp only [fieldCells,List.mem_cons,List.not_mem_nil,or_false] at a;rcases a with rfl|rfl|rfl|rfl
 · rfl
 · rfl
 · rfl
 · exact c p b
theorem tF (b:List cB):∀u∈b.flatMap subCells,u.oneCell'=true:=by
 intro u a;obtain ⟨p,c,a⟩:=List.mem_flatMap.1 a;simp only [subCells,List.mem_cons,List.not_mem_nil,or_false] at a;rcases a with rfl|rfl<;>rfl
theorem xn (ps:List (af×ft)):(ps.flatMap fieldCells).length=ps.length * 4:=by
 induction ps with
 |nil=>rfl
 |cons p ps ih=>rw [gn,hI,ih];simp [fieldCells];omega
theorem xo (a:List cB):(a.flatMap subCells).length=a.length * 2:=by
 induction a with
 |nil=>rfl
 |cons p ps ih=>rw [gn,hI,ih];simp [subCells];omega
structure gH (W0 L wc:Nat) (d:ft) (fs:List af) (k:Nat) (wr:fl):Prop where
 ex:∃ps:List (af×ft),ps.map (·.1)=fs/\wr.ownsRow L 123 4 d fs.length (ps.flatMap fieldCells)/\
  (∀j (hj:j<ps.length),j<k->aD wc wr.heap.size wr ps[j].2 ps[j].1.subs)/\(∀j (hj:j<ps.length),k<=j->aD 0 W0 wr ps[j].2 ps[j].1.subs)
 blk:∀g,d.ownBlock=some g->L<=g/\g<wc
 big:W0<=L/\L<=wc/\wc<=wr.heap.size
theorem gH.start {w wc:fl} {L:Nat} {d:ft} {ps:List (af×ft)} {a:List af} (k:ps.map (·.1)=a) (l:∀p∈ps,aD 0 w.heap.size w p.2 p.1.subs) (e:w.heap.size<=L) (f:L<=wc.heap.size) (h:Bw w wc) (c:wc.ownsRow L 123 4 d a.length (ps.flatMap fieldCells)):
 gH w.heap.size L wc.heap.size d a 0 wc:=by
 refine ⟨⟨ps,k,c,λj b m=>by omega,λj b _=>(l _ (gs b)).kept (aX h (ej _))⟩,λg i=>c.lt g i,e,f,ej _⟩
theorem gH.far {a L wc k:Nat} {d:ft} {l:List af} {wr w':fl} (h:gH a L wc d l k wr) (f:∀q,q<a∨L<=q->q<wr.heap.size->w'.heap[q]? =wr.heap[q]?) (r:wr.heap.size<=w'.heap.size):gH a L wc d l k w':=by
 obtain ⟨ps,h1,b,o,p⟩:=h.ex;have m:=h.big;refine ⟨⟨ps,h1,ah b (λq g=>f q (.inr (b.lt q g).1) (b.lt q g).2),λj c e=>((o j c e).kept (λq g i=>f q (.inr (by omega)) i)).mono (ej _) r,λj c e=>(p j c e).kept (λq _ i=>f q (.inl i) (by omega))⟩,h.blk,m.1,m.2.1,by omega⟩
theorem gH.form {c L wc k:Nat} {d:ft} {b:List af} {wr:fl} (h:gH c L wc d b k wr) (i:k<b.length):∃g a,d=e6 (X ⟨g,0,Y⟩) b.length a:=by
 obtain ⟨l,j,f,_⟩:=h.ex;obtain ⟨g,a,e,_⟩:=World.ownsRow.form f (by omega);exact ⟨g,a,e⟩
theorem gH.cell {b L wc k:Nat} {g f:Nat} {a:List af} {wr:fl} (h:gH b L wc (e6 (X ⟨g,0,Y⟩) a.length f) a k wr) (o:k<a.length):
 ∃c,wr.cell? ⟨g,k * 4+3,Y⟩=X c/\aD 0 b wr c a[k].subs/\∀i,wr.frozen? ⟨g,i,Y⟩=false:=by
 obtain ⟨ps,h1,d,m,l⟩:=h.ex;have p:ps.length=a.length:=by rw [<- h1];simp
 have e:k<ps.length:=by omega
 have j:ps[k].1=a[k]:=by simp [<- h1]
 refine ⟨ps[k].2,?_,by rw [<- j];exact l k e (ej _),λi=>d.frozenAt i⟩;rw [d.cellAt (k * 4+3) (by omega),xp ps k 3 e (by omega)];rfl
theorem gH.put {m L wc k:Nat} {d a:ft} {b:List af} {wr c:fl} (h:gH m L wc d b k wr) (r:k<b.length) (i:Bw wr c) (M:c.ownsRow wr.heap.size 120 2 a b[k].subs.length (b[k].subs.flatMap subCells)) {g u:Nat} (p:d=e6 (X ⟨g,0,Y⟩) b.length u):
 gH m L wc d b (k+1) (c.setCell ⟨g,k * 4+3,Y⟩ a):=by
 obtain ⟨ps,h1,o,y,z⟩:=h.ex;have s:k<ps.length:=by rw [<- h1] at r;simpa using r
 obtain ⟨R,O⟩:=h.blk g (by rw [p];rfl);have N:=i.size;obtain ⟨D,E,G⟩:=h.big;have v:ps[k].1=b[k]:=by simp [<- h1]
 have w:c.ownsRow L 123 4 d b.length (ps.flatMap fieldCells):=ah o (λq l=>i.block q (o.lt q l).2);have H:aD wc (c.setCell ⟨g,k * 4+3,Y⟩ a).heap.size (c.setCell ⟨g,k * 4+3,Y⟩ a) a b[k].subs:=by have A:aD wr.heap.size c.heap.size c a b[k].subs:=aP M;have C:=A.kept (w':=c.setCell ⟨g,k * 4+3,Y⟩ a) (λq l _=>eQ _ _ _ _ (by simp;omega));exact C.mono G (by rw [gd];exact ej _)
 refine ⟨⟨ps.set k (ps[k].1,a),?_,?_,λj f I=>?_,λj f I=>?_⟩,h.blk,D,E,by rw [gd];omega⟩
 · rw [List.map_set, <- h1];have:ps[k].1=(List.map (λx:af×ft=>x.1) ps)[k]'(by simpa using s):=by simp
   rw [this,List.set_getElem_self]
 · subst p;have:=(w.stored (k * 4+3) a).1;rw [xm ps k 3 a (ps[k].1,a) s (by omega) (by simp [fieldCells])] at this;exact this
 · rw [List.length_set] at f;simp only [List.getElem_set];split
   · rename_i e;rw [v];exact H
   · rename_i e;refine ((y j f (by omega)).kept (λq l t=>?_)).mono (ej _) (by rw [gd];exact N);rw [eQ _ _ _ _ (by simp;omega)];exact i.block q t
 · rw [List.length_set] at f;simp only [List.getElem_set];rw [if_neg (by omega)];refine (z j f (by omega)).kept (λq l t=>?_);rw [eQ _ _ _ _ (by simp;omega)];exact i.block q (by omega)
theorem gH.done {b L wc k:Nat} {d:ft} {a:List af} {wr:fl} (h:gH b L wc d a k wr) (l:a.length<=k):ai L wr.heap.size wr d a:=by
 obtain ⟨ps,h1,c,e,_⟩:=h.ex;have m:ps.length=a.length:=by rw [<- h1];simp
 have f:=h.big;refine ⟨ps,h1,λp i=>?_,aP c⟩;obtain ⟨j,g,rfl⟩:=List.getElem_of_mem i;exact (e j g (by omega)).mono f.2.1 (ej _)
theorem Ar {lo b:Nat} {w:fl} {v:ft} {d:List cB} (h:aD lo b w v d):v.oneCell'=true:=by
 obtain ⟨a,c,rfl,_⟩:=h;rfl
def ti (B:Nat) (a b:UInt8) (d:ft) (w:fl):Prop:=w.heap[B]? =X (e7 #[J e8 a.toNat,J e8 b.toNat,d] 62 (0,0))/\w.heap[B+1]? =X (e7 #[J e8 0,J e8 0,e6 Y 0 0] 62 (0,0))
theorem ti.far {B:Nat} {a b:UInt8} {d:ft} {w w':fl} (h:ti B a b d w) (c:w'.heap[B]? =w.heap[B]?) (h1:w'.heap[B+1]? =w.heap[B+1]?):ti B a b d w':=⟨c.trans h.1,h1.trans h.2⟩
theorem yQ (v:ft) (r:az) (w:fl) (h:eA 0 w.heap.size w v r) (hn:r.fields.length<=1000000) (hs:∀f∈r.fields,f.subs.length<=1000000):
 gi prog 60 #[v] w λe w'=>∃v',e=e4 v'/\eA w.heap.size w'.heap.size w' v' r/\Bw w w':=by
 obtain ⟨m,o,a⟩:=r;obtain ⟨x,rfl,hx⟩:=h;obtain ⟨ps,T,a5,a4⟩:=hx;dsimp only at T hn hs a4;unfold fY;dsimp only;obtain ⟨c,N⟩:=Qe ((w.alloc (e7 #[J e8 m.toNat,J e8 o.toNat,x] 62)).alloc (e7 #[J e8 0,J e8 0,e6 Y 0 0] 62));have R:Bw w c:=by rw [<- N];exact ((er _ w).alloc (ej _) _).alloc (by simp) _
 have av:c.heap.size=w.heap.size+2:=by rw [<- N];simp
 have hA:ti w.heap.size m o x c:=by
  refine ⟨?_,?_⟩
  · rw [<- N,es _ _ _ (by simp)];exact em w _
  · rw [<- N];have:=em (w.alloc (e7 #[J e8 m.toNat,J e8 o.toNat,x] 62)) (e7 #[J e8 0,J e8 0,e6 Y 0 0] 62);rwa [fx] at this
 have au:aB 0 c.heap.size c x a.length (ps.flatMap fieldCells):=(a4.kept (aX R (ej _))).mono (ej _) R.size;have al:ps.length=a.length:=by rw [<- T];simp
 have HC:=Z (xK x a.length (ps.flatMap fieldCells) c au (by rw [xn,al]) (λu hu=>qj ps u hu λp hp=>Ar (a5 p hp)) (by omega));have b0:=Z T;have b2:=Z a5;have E:=Z R;have a2:c.cell? ⟨w.heap.size,2,Y⟩=X x:=by rw [aa hA.1];rfl
 have HA:=Z hA;have b1:=Z hs;have A:=Z av;clear au a4 a5 R al hA T hs av;go_enter func60,ntmps60;go_wp2_with (go_at_call 106;((with_reducible refine fy HC.o ?_);rintro e wc ⟨d,rfl,hr,O⟩;obtain ⟨l,b,rfl⟩:=aK hr;have I:ti w.heap.size m o x wc:=HA.o.far (O.block _ (by rw [A.o];omega)) (O.block _ (by rw [A.o];omega));have c2:wc.cell? ⟨w.heap.size,2,Y⟩=X x:=(aa I.1 2).trans rfl;have f2:=ab I.1 2;have HR:=Z hr;have W:=Z O;have a6:=Z I;clear hr O I))
 have hO:=gH.start b0.o b2.o (L:=c.heap.size) E.size W.size (btr E.o W.o E.size) HR.o
 have a8:gH w.heap.size c.heap.size wc.heap.size (e6 l a.length b) a 0 (wc.setCell ⟨w.heap.size,2,Y⟩ (e6 l a.length b)):=
  hO.far (λq hq _=>eQ _ _ _ _ (by have:=A.o;simp;omega)) (by rw [gd];exact ej _)
 have a9:ti w.heap.size m o (e6 l a.length b) (wc.setCell ⟨w.heap.size,2,Y⟩ (e6 l a.length b)):=by
  refine ⟨?_,?_⟩
  · rw [ap a6.o.1];rfl
  · rw [eQ _ _ _ _ (by simp)];exact a6.o.2
 have a7:Bw w (wc.setCell ⟨w.heap.size,2,Y⟩ (e6 l a.length b)):=(btr E.o W.o E.o.size).setCell (by simp) _;have aT:=Z a8;have b3:=Z a9;have ax:=Z a7;clear hO a8 a9 a7;go_loopw [3,11] (λ_a i wr=>∃k:Nat,k<=a.length/\i=J U k/\Hid (gH w.heap.size c.heap.size wc.heap.size (e6 l a.length b) a k wr)/\Hid (ti w.heap.size m o (e6 l a.length b) wr)/\Hid (Bw w wr)) (λ_ i _=>a.length - (intOf i).toNat)
 case atStart=>exact ⟨0,gP _,rfl,aT,b3,ax⟩
 case round=>
  obtain ⟨k,hk,rfl,z,j,D⟩:=hrel;have e2:wr.cell? ⟨w.heap.size,2,Y⟩=X (e6 l a.length b):=by rw [aa j.o.1];rfl
  by_cases hlt:k<a.length
  · obtain ⟨g,b6,he⟩:=z.form hlt;cases he;obtain ⟨G,ac,ao,ad⟩:=z.cell hlt;have b5:w.heap.size+2<=g/\g<wr.heap.size:=by have:=z.o.blk g rfl;have:=z.o.big;have:=A.o;omega
    have aC:=Z (xJ G a[k].subs.length (a[k].subs.flatMap subCells) wr.drew ((show aD 0 w.heap.size wr.drew G a[k].subs from ao).mono (ej _) D.size) (xo _) (tF _) (b1 _ (gs hlt)));have M:wr.drew.cell? ⟨w.heap.size,2,Y⟩=X (e6 (X ⟨g,0,Y⟩) a.length b)/\wr.drew.cell? ⟨g,k * 4+3,Y⟩=X G:=⟨e2,ac⟩;have b7:(k:Int)<(a.length:Int):=by omega
    have aS:=Z (ad (k * 4+3));clear ao ad ac e2;go_wp2_with fail
    refine wT (λw'=>w'.cell? ⟨w.heap.size,2,Y⟩=X (e6 (X ⟨g,0,Y⟩) a.length b)/\w'.cell? ⟨g,k * 4+3,Y⟩=X G) 12 ?_;refine Qb [0,2,3,5,1,4,6,7,8] M (λw' h=>h) ?_;refine Dp 9 λK s=>?_;go_simp;go_at_call 107;refine aC.mono ?_;rintro e y ⟨dd,rfl,a3,t⟩;obtain ⟨a0,a1,rfl⟩:=aK a3;have C:Bw wr y:=⟨t.os,t.tape,t.output,t.size,t.block⟩;have H:y.cell? ⟨w.heap.size,2,Y⟩=X (e6 (X ⟨g,0,Y⟩) a.length b)/\y.cell? ⟨g,k * 4+3,Y⟩=X G:=⟨fN t _ _ M.1,fN t _ _ M.2⟩;refine s _ _ (λ_=>H) ?_;clear s K;have c9:=H.2;have f9:y.frozen? ⟨g,k * 4+3,Y⟩=false:=by rw [(aE C).2 _ _ b5.2];exact aS.o
    refine Ds 10 H ?_;refine Qb [11] H (λw' h=>h) ?_
    refine Dl 12 ?_;have HN:Hid (gH w.heap.size c.heap.size wc.heap.size (e6 (X ⟨g,0,Y⟩) a.length b) a (k+1) (y.setCell ⟨g,k * 4+3,Y⟩ (.slice a0 a[k].subs.length a1))):=z.put hlt C a3 rfl;have b4:Hid (ti w.heap.size m o (e6 (X ⟨g,0,Y⟩) a.length b) (y.setCell ⟨g,k * 4+3,Y⟩ (.slice a0 a[k].subs.length a1))):=by
     have b8:=D.size;refine j.far ?_ ?_
     · rw [eQ _ _ _ _ (by simp;omega)];exact C.block _ (by omega)
     · rw [eQ _ _ _ _ (by simp;omega)];exact C.block _ (by omega)
    have ay:Hid (Bw w (y.setCell ⟨g,k * 4+3,Y⟩ (.slice a0 a[k].subs.length a1))):=(btr D.o C D.o.size).setCell (by simp;omega) _;clear M H c9 f9 a3 t C;go_wp2_with fail
    go_roundw
    case rel=>exact ⟨k+1,by omega,by go_num,HN,b4,ay⟩
    case measure=>simp [intOf];omega
  · have c0:wr.cell? ⟨w.heap.size,0,Y⟩=X (J e8 m.toNat):=by rw [aa j.o.1];rfl
    have c1:wr.cell? ⟨w.heap.size,1,Y⟩=X (J e8 o.toNat):=by rw [aa j.o.1];rfl
    have d0:wr.cell? ⟨w.heap.size+1,0,Y⟩=X (J e8 0):=by rw [aa j.o.2];rfl
    have d1:wr.cell? ⟨w.heap.size+1,1,Y⟩=X (J e8 0):=by rw [aa j.o.2];rfl
    have d2:wr.cell? ⟨w.heap.size+1,2,Y⟩=X (e6 Y 0 0):=by rw [aa j.o.2];rfl
    have g0:=ab j.2 0;have g1:=ab j.2 1;have g2:=ab j.2 2;go_wp2_with fail
    refine bodyPost_ret (v:= .agg #[J e8 m.toNat,J e8 o.toNat,e6 l a.length b]) (by rw [cT rfl];go_simp) rfl ?_;refine ⟨_,rfl,⟨_,rfl,?_⟩,((D.o.setCell (by simp) _).setCell (by simp) _).setCell (by simp) _⟩;refine ((z.o.done (by omega)).kept (λq hq _=>?_)).mono (by have:=A.o;omega) (by simp);have hz:=A.o;rw [eQ _ _ _ _ (by simp;omega),eQ _ _ _ _ (by simp;omega),eQ _ _ _ _ (by simp;omega)]
theorem xw (u v:ft) (l m:List cB) (w:fl) (y:aD 0 w.heap.size w u l) (z:aD 0 w.heap.size w v m) (hl:l.length<=1000000) (hm:m.length<=1000000):
 gi prog 105 #[u,v] w λe w'=>e=e4 (e5 (decide (l=m)))/\Bw w w':=by
 have G:=Z y;have H:=Z z;obtain ⟨a,c,rfl,_⟩:=y;obtain ⟨R,V,rfl,_⟩:=z;by_cases hlm:l.length=m.length
 · have N:((l.length:Int)!=(m.length:Int))=false:=by simp;omega
   have a7:m.length<=l.length:=by omega
   have a6:l.length<=m.length:=by omega
   have O:=Z hlm;clear hlm;go_enter func105,ntmps105;go_wp2_with fail
   go_loopw [5,13] (λ_a i wr=>∃k:Nat,k<=l.length/\i=J U k/\Hid (l.take k=m.take k)/\Bw w wr) (λ_ i _=>l.length - (intOf i).toNat)
   case atStart=>exact ⟨0,gP _,rfl,rfl,er _ _⟩
   case round=>
    obtain ⟨k,hk,rfl,r,d⟩:=hrel;by_cases hlt:k<l.length
    · have x:k<m.length:=by omega
      obtain ⟨b,a8,W,f,_,a2,I,c1⟩:=(aD.kept G.o (aX d (ej _))).sub k hlt;cases f;obtain ⟨T,a9,a0,f,_,a3,L,M⟩:=(aD.kept H.o (aX d (ej _))).sub k x;cases f;have a5:(k:Int)<(m.length:Int):=by omega
      have s:Hid (l.take (k+1)=l.take k++[l[k]]/\m.take (k+1)=m.take k++[m[k]]):=⟨fr hlt,fr x⟩;have E:Hid (l=m->l[k]=m[k]):=λh=>by subst h;rfl
      generalize l[k]=p at *;generalize m[k]=q at *;obtain ⟨g,A⟩:=p;obtain ⟨j,C⟩:=q;dsimp only at I c1 L M;have a4:b<wr.heap.size:=by have:=d.size;omega
      by_cases hpq:g=j/\A=C
      · obtain ⟨rfl,rfl⟩:=hpq;go_wp2_with fail
        go_region;go_wp2_with fail
        go_roundw
        case rel=>exact ⟨k+1,by omega,by go_num,by unfold Hid;rw [s.o.1,s.o.2,r.o],d.drew⟩
        case measure=>simp [intOf];omega
      · have o:Hid (l≠m):=λh=>hpq (by injection E.o h with h1 t;exact ⟨h1,t⟩);by_cases h1:g=j
        · have t:¬A=C:=λh=>hpq ⟨h1,h⟩;subst h1;clear hpq;go_wp2_with fail
          go_region;go_wp2_with fail
          go_ret;exact ⟨an (by symm;exact decide_eq_false o.o),d.drew⟩
        · have a1:¬(g.toNat=j.toNat):=λe=>h1 (UInt8.toNat_inj.1 e);clear hpq;go_wp2_with fail
          go_region;go_wp2_with fail
          go_ret;exact ⟨an (by symm;exact decide_eq_false o.o),d.drew⟩
    · have D:Hid (l=m):=by have:=r.o;rw [fz (by omega),fz (by omega)] at this;exact this
      go_wp2_with fail
      go_ret;exact ⟨an (by symm;exact decide_eq_true D.o),d⟩
 · have N:((l.length:Int)!=(m.length:Int))=true:=by simp;omega
   go_enter func105,ntmps105;go_wp2_with fail
   go_ret;exact ⟨an (by symm;exact decide_eq_false (λh=>hlm (by rw [h]))),er _ _⟩
theorem wE (f g:af) (d u:ft) (w:fl) (r:aD 0 w.heap.size w d f.subs) (s:aD 0 w.heap.size w u g.subs) (v:f.subs.length<=1000000) (x:g.subs.length<=1000000):
 gi prog 104 #[.agg #[S f.tag,S f.ind,S f.data,d], .agg #[S g.tag,S g.ind,S g.data,u]] w λe w'=>e=e4 (e5 (decide (f=g)))/\Bw w w':=by
 obtain ⟨t1,k,p,l⟩:=f;obtain ⟨t2,y,z,m⟩:=g;dsimp only at r s v x ⊢;have D:=Z r;have E:=Z s;obtain ⟨a,c,rfl,_⟩:=r;obtain ⟨G,H,rfl,_⟩:=s;have b:∀o i,Bw w ((w.alloc o).alloc i):=λo i=>((er _ w).alloc (ej _) o).alloc (by simp) i;by_cases e1:t1=t2
 · subst e1;by_cases e2:k=y
   · subst e2;by_cases e3:p=z
     · subst e3;have A:=Z (λo i=>xw (e6 a l.length c) (e6 G m.length H) l m ((w.alloc o).alloc i) ((D.kept (aX (b o i) (ej _))).mono (ej _) (b o i).size) ((E.kept (aX (b o i) (ej _))).mono (ej _) (b o i).size) v x);have C:Hid (decide ((⟨t1,k,p,l⟩:af)=⟨t1,k,p,m⟩)=decide (l=m)):=by unfold Hid;simp
       have t:=Z b;clear b;generalize decide (l=m)=q at *;go_enter func104,ntmps104;go_wp2_with (go_at_call 105;((with_reducible refine fy (A.o _ _) ?_);rintro e w' ⟨rfl,I⟩))
       all_goals go_ret
       all_goals exact ⟨an C.symm,(t _ _).trans (I.mono (t _ _).size)⟩
     · have j:(p==z)=false:=by simpa using e3
       clear e3;go_enter func104,ntmps104;go_wp2_with fail
       go_ret;exact ⟨an (by symm;exact decide_eq_false (λh=>by injection h with _ _ h;rw [h] at j;simp at j)),b _ _⟩
   · have j:(k==y)=false:=by simpa using e2
     clear e2;go_enter func104,ntmps104;go_wp2_with fail
     go_ret;exact ⟨an (by symm;exact decide_eq_false (λh=>by injection h with _ h;rw [h] at j;simp at j)),b _ _⟩
 · have j:(t1==t2)=false:=by simpa using e1
   clear e1;go_enter func104,ntmps104;go_wp2_with fail
   go_ret;exact ⟨an (by symm;exact decide_eq_false (λh=>by injection h with h;rw [h] at j;simp at j)),b _ _⟩
theorem uG (u v:ft) (l m:List af) (w:fl) (L:ai 0 w.heap.size w u l) (M:ai 0 w.heap.size w v m) (hl:l.length<=1000000) (hm:m.length<=1000000) (a0:∀f∈l,f.subs.length<=1000000) (a1:∀f∈m,f.subs.length<=1000000):
 gi prog 103 #[u,v, .func (.func 104) #[] #[]] w λe w'=>e=e4 (e5 (decide (l=m)))/\Bw w w':=by
 have HU:=Z L;have HV:=Z M;have a2:=Z a0;have a3:=Z a1;obtain ⟨a,c,rfl⟩:=L.shape;obtain ⟨a',c',rfl⟩:=M.shape;clear L M a0 a1;by_cases hlm:l.length=m.length
 · have a4:((l.length:Int)!=(m.length:Int))=false:=by simp;omega
   have aC:m.length<=l.length:=by omega
   have ay:l.length<=m.length:=by omega
   have a5:=Z hlm;clear hlm;go_enter func103,ntmps103;go_wp2_with fail
   go_loopw [7,8,9,17] (λ_a _b _c i wr=>∃k:Nat,k<=l.length/\i=J U k/\Hid (l.take k=m.take k)/\Bw w wr) (λ_ _ _ i _=>l.length - (intOf i).toNat)
   case atStart=>exact ⟨0,gP _,rfl,rfl,er _ _⟩
   case round=>
    obtain ⟨k,hk,rfl,N,j⟩:=hrel;by_cases hlt:k<l.length
    · have G:k<m.length:=by omega
      obtain ⟨b,aS,a6,d,E,_,au,c0,c1,c2,c3,H⟩:=(ai.kept HU.o (aX j (ej _))).field k hlt;cases E;obtain ⟨t,y,a7,A,E,_,av,T,V,d2,d3,I⟩:=(ai.kept HV.o (aX j (ej _))).field k G;cases E;have ax:(k:Int)<(m.length:Int):=by omega
      have O:Hid (l.take (k+1)=l.take k++[l[k]]/\m.take (k+1)=m.take k++[m[k]]):=⟨fr hlt,fr G⟩;have HQ:Hid (l=m->l[k]=m[k]):=λh=>by subst h;rfl
      have D:=j.size;have a8:∀o,(wr.alloc o).cell? ⟨t,y+k * 4,Y⟩=X (S m[k].tag):=λo=>by rw [aV _ _ _ _ (by omega)];exact T
      have a9:∀o,(wr.alloc o).cell? ⟨t,y+k * 4+1,Y⟩=X (S m[k].ind):=λo=>by rw [aV _ _ _ _ (by omega)];exact V
      have ac:∀o,(wr.alloc o).cell? ⟨t,y+k * 4+2,Y⟩=X (S m[k].data):=λo=>by rw [aV _ _ _ _ (by omega)];exact d2
      have ad:∀o,(wr.alloc o).cell? ⟨t,y+k * 4+3,Y⟩=X A:=λo=>by rw [aV _ _ _ _ (by omega)];exact d3
      have s:Hid (∀o g,Bw w ((wr.alloc o).alloc g)):=λo g=>(j.alloc D o).alloc (by simp;omega) g
      have r:Hid (∀W,Bw wr W->gi prog 104 #[.agg #[S l[k].tag,S l[k].ind,S l[k].data,d], .agg #[S m[k].tag,S m[k].ind,S m[k].data,A]] W λe w'=>e=e4 (e5 (decide (l[k]=m[k])))/\Bw W w'):=λW x=>
       wE l[k] m[k] d A W (((H.mono (ej _) D).kept (aX x (ej _))).mono (ej _) x.size) (((I.mono (ej _) D).kept (aX x (ej _))).mono (ej _) x.size) (a2 _ (gs hlt)) (a3 _ (gs G))
      have R:Hid (∀o g,Bw wr ((wr.alloc o).alloc g)):=λo g=>((er _ wr).alloc (ej _) o).alloc (by simp) g;obtain ⟨da,dc,rfl,_⟩:=id H;obtain ⟨al,ao,rfl,_⟩:=id I;clear H I T V d2 d3;generalize hp:l[k]=p at *;generalize hq:m[k]=q at *;clear hp hq;obtain ⟨p1,p2,p3,p4⟩:=p;obtain ⟨q1,q2,q3,q4⟩:=q;dsimp only at *;by_cases hpq:(⟨p1,p2,p3,p4⟩:af)=⟨q1,q2,q3,q4⟩
      · rw [decide_eq_true hpq] at r;have z:=Z hpq;clear hpq;go_wp2_with (go_at_call 104;((with_reducible refine fy (r.o _ (R.o _ _)) ?_);rintro e w' ⟨rfl,C⟩))
        go_roundw
        case rel=>exact ⟨k+1,by omega,by go_num,by unfold Hid;rw [O.o.1,O.o.2,N.o,z.o],btr (s.o _ _) C (s.o _ _).size⟩
        case measure=>simp [intOf];omega
      · rw [decide_eq_false hpq] at r;have z:=Z hpq;clear hpq;go_wp2_with (go_at_call 104;((with_reducible refine fy (r.o _ (R.o _ _)) ?_);rintro e w' ⟨rfl,C⟩))
        go_ret;exact ⟨an (by symm;exact decide_eq_false (λh=>z (HQ h))),btr (s _ _) C (s _ _).size⟩
    · have HE:Hid (l=m):=by have:=N.o;rw [fz (by omega),fz (by omega)] at this;exact this
      go_wp2_with fail
      go_ret;exact ⟨an (by symm;exact decide_eq_true HE.o),j⟩
 · have a4:((l.length:Int)!=(m.length:Int))=true:=by simp;omega
   go_enter func103,ntmps103;go_wp2_with fail
   go_ret;exact ⟨an (by symm;exact decide_eq_false (λh=>hlm (by rw [h]))),er _ _⟩
theorem Ay (u v:ft) (r s:az) (w:fl) (R:eA 0 w.heap.size w u r) (T:eA 0 w.heap.size w v s) (N:r.fields.length<=1000000) (O:s.fields.length<=1000000) (E:∀f∈r.fields,f.subs.length<=1000000) (G:∀f∈s.fields,f.subs.length<=1000000):
 gi prog 59 #[u,v] w λe w'=>e=e4 (e5 (decide (r=s)))/\Bw w w':=by
 obtain ⟨j,m,k⟩:=r;obtain ⟨z,p,l⟩:=s;obtain ⟨x,rfl,g⟩:=R;obtain ⟨y,rfl,i⟩:=T;unfold fY;dsimp only at *;have d:∀o b,Bw w ((w.alloc o).alloc b):=λo b=>((er _ w).alloc (ej _) o).alloc (by simp) b;by_cases e1:j=z
 · subst e1;by_cases e2:m=p
   · subst e2;have H:=Z (λo b=>uG x y k l ((w.alloc o).alloc b) ((g.kept (aX (d o b) (ej _))).mono (ej _) (d o b).size) ((i.kept (aX (d o b) (ej _))).mono (ej _) (d o b).size) N O E G);have I:Hid (decide ((⟨j,m,k⟩:az)=⟨j,m,l⟩)=decide (k=l)):=by unfold Hid;simp
     obtain ⟨a,c,rfl⟩:=g.shape;obtain ⟨C,D,rfl⟩:=i.shape;have A:=Z d;clear d g i E G;generalize decide (k=l)=q at *;go_enter func59,ntmps59;go_wp2_with (go_at_call 103;((with_reducible refine fy (H.o _ _) ?_);rintro e w' ⟨rfl,M⟩))
     all_goals go_ret
     all_goals exact ⟨an I.symm,(A _ _).trans (M.mono (A _ _).size)⟩
   · have L:¬(m.toNat=p.toNat):=λe=>e2 (UInt8.toNat_inj.1 e);have t:Hid (decide ((⟨j,m,k⟩:az)=⟨j,p,l⟩)=false):=decide_eq_false (λh=>e2 (by injection h));obtain ⟨a,c,rfl⟩:=g.shape;obtain ⟨C,D,rfl⟩:=i.shape;clear e2 g i;go_enter func59,ntmps59;go_wp2_with fail
     go_ret;exact ⟨an t.symm,d _ _⟩
 · have L:¬(j.toNat=z.toNat):=λe=>e1 (UInt8.toNat_inj.1 e);have t:Hid (decide ((⟨j,m,k⟩:az)=⟨z,p,l⟩)=false):=decide_eq_false (λh=>e1 (by injection h));obtain ⟨a,c,rfl⟩:=g.shape;obtain ⟨C,D,rfl⟩:=i.shape;clear e1 g i;go_enter func59,ntmps59;go_wp2_with fail
   go_ret;exact ⟨an t.symm,d _ _⟩
theorem ug (w:fl):gi prog 32 #[] w λe w'=>e=e4 (e9 (X ⟨w.heap.size,0,Y⟩))/\w'=w.alloc (e7 #[ee Y,ee Y,ee Y,e9 Y] 117):=by
 go_enter func32,ntmps32;go_wp2;go_ret;exact ⟨rfl,rfl⟩
theorem qD (b n:Nat) (w:fl) (a:w.cell? ⟨b,0,Y⟩=X (ee (X n))):gi prog 57 #[e9 (X ⟨b,0,Y⟩)] w λe w'=>e=e4 (.tuple #[])/\w=w':=by
 have c:∀(w:fl) (r:Option Nat),(binOp .eql 113 (.map r) (ee Y)).run prog w= .ok (e5 r.isNone) w:=λw r=>run_eql_map_nil w 113 _ _ r underlying113;go_enter func57,ntmps57;go_wp2;go_end0
 exact ⟨rfl,rfl⟩
theorem qE (b:Nat) (v:ft) (w:fl) (h:w.heap[b]? =X (e7 #[ee Y,ee Y,ee Y,v] 117 (0,0))):gi prog 57 #[e9 (X ⟨b,0,Y⟩)] w λe w'=>e=e4 (.tuple #[])/\
 w'=((((((w.alloc (.map #[] 0)).alloc (.map #[] 0)).alloc (.map #[] 0)).setCell ⟨b,0,Y⟩ (ee (X w.heap.size))).setCell ⟨b,1,Y⟩ (ee (X (w.heap.size+1)))).setCell ⟨b,2,Y⟩ (ee (X (w.heap.size+2)))):=by
 have d:w.cell? ⟨b,0,Y⟩=X (ee Y):=by rw [aa h];rfl
 have c1:w.cell? ⟨b,1,Y⟩=X (ee Y):=by rw [aa h];rfl
 have c2:w.cell? ⟨b,2,Y⟩=X (ee Y):=by rw [aa h];rfl
 have j:=ab h 0;have k:=ab h 1;have l:=ab h 2;have c:=ae h;have a:(((w.alloc (.map #[] 0)).alloc (.map #[] 0)).alloc (.map #[] 0)).heap[b]? =X (e7 #[ee Y,ee Y,ee Y,v] 117 (0,0)):=by rw [es _ _ _ (by simp;omega),es _ _ _ (by simp;omega),es _ _ _ c];exact h
 have f:(((w.alloc (.map #[] 0)).alloc (.map #[] 0)).alloc (.map #[] 0)).cell? ⟨b,0,Y⟩=X (ee Y):=by rw [aa a];rfl
 have g:(((w.alloc (.map #[] 0)).alloc (.map #[] 0)).alloc (.map #[] 0)).cell? ⟨b,1,Y⟩=X (ee Y):=by rw [aa a];rfl
 have i:(((w.alloc (.map #[] 0)).alloc (.map #[] 0)).alloc (.map #[] 0)).cell? ⟨b,2,Y⟩=X (ee Y):=by rw [aa a];rfl
 have m:=ab a 0;have o:=ab a 1;have p:=ab a 2;clear a;clear h;have s:∀(w:fl) (r:Option Nat),(binOp .eql 113 (.map r) (ee Y)).run prog w= .ok (e5 r.isNone) w:=λw r=>run_eql_map_nil w 113 _ _ r underlying113;have q:= @run_makeMap prog;go_enter func57,ntmps57;go_wp2;go_end0
 exact ⟨rfl,rfl⟩
end
section
open Go.RowKit Go.Maps Go.Shelf
section
variable {P:hD} {kt:g6} {K:Type} [DecidableEq K] {B:ez P kt K}
def bQ (B:ez P kt K) (w:fl) (mv:Option Nat) (l:List (K×ft)):Prop:=match mv with
 |none=>l=[]
 |some b=>ak B w b l
theorem bQ.block {w w':fl} {mv:Option Nat} {l:List (K×ft)} (h:bQ B w mv l) (a:∀b,mv=X b->w'.heap[b]? =w.heap[b]?):bQ B w' mv l:=by
 cases mv with
 |none=>exact h
 |some b=>exact ak.block h (a b rfl)
theorem bQ.look_ok {w:fl} {mv:Option Nat} {l:List (K×ft)} (h:bQ B w mv l) {t e:g6} (c:P.underlying t=X (.map kt e)) {z:ft} (d:∀u:fl,(zeroValue e).run P u= .ok z u) (k:K) (a:B.ok k):
 (gt t (.map mv) (B.kv k) true).run P w= .ok (.tuple #[(lookL l k).getD z,e5 (lookL l k).isSome]) w:=by
 cases mv with
 |none=> have h:l=[]:=h;subst h;rw [Maps.look_nil true B.keyed c (d w) (B.key k a)];rfl
 |some b=>exact ak.look_ok h c (d w) k a
theorem bQ.look {w:fl} {mv:Option Nat} {l:List (K×ft)} (h:bQ B w mv l) {t e:g6} (c:P.underlying t=X (.map kt e)) {z:ft} (d:∀u:fl,(zeroValue e).run P u= .ok z u) (k:K) (a:B.ok k):
 (gt t (.map mv) (B.kv k) false).run P w= .ok ((lookL l k).getD z) w:=by
 cases mv with
 |none=> have h:l=[]:=h;subst h;rw [Maps.look_nil false B.keyed c (d w) (B.key k a)];rfl
 |some b=>exact ak.look h c (d w) k a
theorem bQ.len {w:fl} {mv:Option Nat} {l:List (K×ft)} (h:bQ B w mv l) {t e:g6} (c:P.underlying t=X (.map kt e)) (a:g6):
 (Builtin.len_ #[t] a #[.map mv]).run P w= .ok (J U l.length) w:=by
 cases mv with
 |none=> have h:l=[]:=h;subst h;exact Maps.len_nil c a
 |some b=> obtain ⟨f,h1,d,_⟩:=h;have:=h1.len c a;rw [ak.size d] at this;exact this
theorem bQ.lt {w:fl} {b:Nat} {l:List (K×ft)} (h:bQ B w (X b) l):b<w.heap.size:=ak.lt h
theorem bQ.ok {w:fl} {mv:Option Nat} {l:List (K×ft)} (h:bQ B w mv l):∀p∈l,B.ok p.1:=by
 cases mv with
 |none=> have h:l=[]:=h;subst h;intro p a;cases a
 |some b=>exact ak.ok h
end
theorem ea {K V:Type} [DecidableEq K] (l:List (K×V)) (f:V->ft) (k:K):lookL (l.map λp=>(p.1,f p.2)) k=(findK l k).map f:=by
 induction l with
 |nil=>rfl
 |cons p l ih=>
  unfold findK at ih ⊢;rw [hv,dm,List.find?_cons];by_cases h:p.1=k
  · rw [if_pos h];simp [h]
  · rw [if_neg h,ih];simp [h]
theorem Bv {K V:Type} [DecidableEq K] (l:List (K×V)) (f:K->V->ft) (k:K):cn (l.map λp=>(p.1,f p.1 p.2)) k=(l.filter λp=> !decide (p.1=k)).map λp=>(p.1,f p.1 p.2):=by
 unfold cn;rw [List.filter_map];rfl
theorem jy {K V:Type} [DecidableEq K] {lt:K->K->Bool} (T:Tot lt) {l:List (K×V)} (a:aq lt l) (f:K->V->ft) (k:K) (v:V):
 (putL (l.map λp=>(p.1,f p.1 p.2)) k (f k v)).Perm ((insL lt l k v).map λp=>(p.1,f p.1 p.2)):=by
 unfold putL;rw [Bv];have:=(zi T a k v).map (λp=>(p.1,f p.1 p.2));rw [List.map_append] at this;exact this
def kT (k:RK) (n:Int) (r:az) (x:ft):ft:= .agg #[J U k.1,J U k.2,J U n,J e8 r.kind.toNat,J e8 r.level.toNat,x]
abbrev VX:=(Int×az)×ft
def iC (k:RK) (p:VX):ft:=kT k p.1.1 p.1.2 p.2
def fo (p:Int×Bool):ft:= .agg #[J U p.1,e5 p.2]
theorem vO {K V W:Type} [DecidableEq K] (lt:K->K->Bool) (g:V->W) (l:List (K×V)) (k:K) (v:V):(insL lt l k v).map (λp=>(p.1,g p.2))=insL lt (l.map λp=>(p.1,g p.2)) k (g v):=by
 induction l with
 |nil=>rfl
 |cons p l ih=>
  unfold insL;rw [hv];dsimp only;by_cases h:lt p.1 k=true
  · rw [if_pos h,if_pos h,hv,ih]
  · rw [if_neg h,if_neg h];by_cases h2:p.1=k
    · rw [if_pos h2,if_pos h2];rfl
    · rw [if_neg h2,if_neg h2];rfl
def dT (F:Nat->Prop) (w:fl) (p:RK×VX):Prop:=∃lo a,ai lo a w p.2.2 p.2.1.2.fields/\a<=w.heap.size/\∀k,lo<=k->k<a->F k
theorem dT.step {F:Nat->Prop} {w w':fl} {p:RK×VX} (h:dT F w p) (e:∀k,F k->w'.heap[k]? =w.heap[k]?) (g:w.heap.size<=w'.heap.size):dT F w' p:=by
 obtain ⟨lo,d,h1,f,c⟩:=h;exact ⟨lo,d,h1.kept (λk a b=>e k (c k a b)),by omega,c⟩
theorem dT.wide {F G:Nat->Prop} {w:fl} {p:RK×VX} (h:dT F w p) (e:∀k,F k->G k):dT G w p:=by
 obtain ⟨lo,f,h1,c,d⟩:=h;exact ⟨lo,f,h1,c,λk a b=>e k (d k a b)⟩
def jM (F:Nat->Prop) (w:fl) (mv:Option Nat) (a:VL):Prop:=
 ∃ps:List (RK×VX),ps.map (λp=>(p.1,p.2.1))=a/\bQ recB w mv (ps.map λp=>(p.1,iC p.1 p.2))/\∀p∈ps,dT F w p
structure CH (w:fl) (b:Nat) (L:VL) (set:List Nat):Prop where
 ex:∃l,ak recB w b l/\∀k,lookL l k=(atC L k).map λi=>recK (keyC L (set.getD i 0))
structure Aj (F:Nat->Prop) (w:fl) (b:Nat) (L:VL) (set:List Nat):Prop where
 ex:∃l,ak recB w b l/\(∀k,(lookL l k).isSome=true↔∃t,t<L.length/\set.getD t 0=t/\keyC L t=k)/\
  ∀t,t<L.length->set.getD t 0=t->∃v,lookL l (keyC L t)=some v/\∃g n cap,v= .slice (some ⟨g,0,none⟩) n cap/\F g/\eB 0 w.heap.size w v (aW L set t)
def de (F:Nat->Prop) (w:fl) (t:Nat) (L:VL) (set:List Nat):Prop:=
 ∃b a,w.heap[t]? =X (e7 #[ee (X b),ee (X a)] 95 (0,0))/\F t/\F b/\F a/\CH w b L set/\Aj F w a L set
def BM (F:Nat->Prop) (w:fl) (a:ft) (d:ar):Prop:=a=e9 Y∨∃t,a=e9 (X ⟨t,0,Y⟩)/\de F w t (thereC d) (setsC d)
structure bd (d:ar):Prop where
 ok:d.Ok
 vlen:d.vs.length<=5000
 dlen:d.ds.length<=5000
 plen:d.ps.length<=5000
 right:∀p∈d.vs,wrongR p.2.2=0
 vnum:∀p∈d.vs,i64B p.2.1
 dnum:∀p∈d.ds,i64B p.2
 pnum:∀p∈d.ps,i64B p.2.1
 vkey:∀p∈d.vs,rkOk p.1
 dkey:∀p∈d.ds,rkOk p.1
 pkey:∀p∈d.ps,pkOk p.1
def restF (F:Nat->Prop) (c:Nat) (a b d:Option Nat) (k:Nat):Prop:=F k/\k≠c/\a≠X k/\b≠X k/\d≠X k
structure dF (F:Nat->Prop) (w:fl) (c:Nat) (m1 m2 m3:Option Nat) (kn:ft) (d:ar):Prop where
 blk:w.heap[c]? =some (.cells #[.map m1, .map m2, .map m3,kn] 117 (0,0))
 vs:jM (restF F c m1 m2 m3) w m1 d.vs
 ds:bQ recB w m2 (d.ds.map λp=>(p.1, .int .i64 p.2))
 ps:bQ pairB w m3 (d.ps.map λp=>(p.1,fo p.2))
 kn:BM (restF F c m1 m2 m3) w kn d
 fc:F c
 f1:∀m,m1=some m->F m
 f2:∀m,m2=some m->F m
 f3:∀m,m3=some m->F m
 one:(m1=none/\m2=none/\m3=none)∨∃a b e,m1=some a/\m2=some b/\m3=some e/\a≠b/\a≠e/\b≠e
 lt:∀k,F k->k<w.heap.size
 ok:bd d
def bf (F:Nat->Prop) (w:fl) (c:Nat) (d:ar):Prop:=∃b e f a,dF F w c b e f a d
theorem jM.step {F:Nat->Prop} {w w':fl} {mv:Option Nat} {a:VL} (h:jM F w mv a) (f:∀b,mv=X b->w'.heap[b]? =w.heap[b]?) (e:∀k,F k->w'.heap[k]? =w.heap[k]?) (i:w.heap.size<=w'.heap.size):jM F w' mv a:=by
 obtain ⟨ps,h1,c,d⟩:=h;exact ⟨ps,h1,c.block f,λp g=>(d p g).step e i⟩
theorem jM.wide {F G:Nat->Prop} {w:fl} {mv:Option Nat} {a:VL} (h:jM F w mv a) (d:∀k,F k->G k):jM G w mv a:=by
 obtain ⟨ps,h1,b,c⟩:=h;exact ⟨ps,h1,b,λp e=>(c p e).wide d⟩
theorem de.step {F:Nat->Prop} {w w':fl} {t:Nat} {L:VL} {set:List Nat} (h:de F w t L set) (f:∀k,F k->w'.heap[k]? =w.heap[k]?) (hz:w.heap.size<=w'.heap.size):de F w' t L set:=by
 obtain ⟨s,r,h1,m,o,p,⟨l,z,A⟩,⟨O,C,D,E⟩⟩:=h;refine ⟨s,r,(f t m).trans h1,m,o,p,⟨l,z.block (f s o),A⟩,⟨O,C.block (f r p),D,λt I T=>?_⟩⟩;obtain ⟨v,M,g,n,u,i,q,H⟩:=E t I T;refine ⟨v,M,g,n,u,i,q,?_⟩;subst i;obtain ⟨a,c,d,h⟩:=H;refine ⟨a,c,d,λG=>?_⟩;obtain ⟨b,R,e,V,W,y⟩:=h G;injection d with d _ _
 rw [<- d] at e;injection e with e
 injection e with hb ho i
 subst hb;refine ⟨g,R,by rw [<- d,ho],gP _,by omega,λj x N=>?_⟩;rw [World.cell?_of_block (w:=w) (f g q)];exact y j x N
theorem de.wide {F G:Nat->Prop} {w:fl} {t:Nat} {L:VL} {set:List Nat} (h:de F w t L set) (a:∀k,F k->G k):de G w t L set:=by
 obtain ⟨x,u,h1,c,d,e,f,⟨s,i,j,l⟩⟩:=h;refine ⟨x,u,h1,a _ c,a _ d,a _ e,f,⟨s,i,j,λt q y=>?_⟩⟩;obtain ⟨v,r,g,n,b,p,m,o⟩:=l t q y;exact ⟨v,r,g,n,b,p,a _ m,o⟩
theorem dF.step {F:Nat->Prop} {w w':fl} {c:Nat} {j l m:Option Nat} {i:ft} {d:ar} (h:dF F w c j l m i d) (a:∀k,F k->w'.heap[k]? =w.heap[k]?) (g:w.heap.size<=w'.heap.size):dF F w' c j l m i d:=by
 refine ⟨(a c h.fc).trans h.blk,h.vs.step (λb e=>a b (h.f1 b e)) (λk f=>a k f.1) g,h.ds.block (λb e=>a b (h.f2 b e)),h.ps.block (λb e=>a b (h.f3 b e)),?_,h.fc,h.f1,h.f2,h.f3,h.one,λk p=>Nat.lt_of_lt_of_le (h.lt k p) g,h.ok⟩;rcases h.kn with h1|⟨t,h1,o⟩
 · exact .inl h1
 · exact .inr ⟨t,h1,o.step (λk f=>a k f.1) g⟩
theorem bf.step {F:Nat->Prop} {w w':fl} {c:Nat} {d:ar} (h:bf F w c d) (a:∀k,F k->w'.heap[k]? =w.heap[k]?) (b:w.heap.size<=w'.heap.size):bf F w' c d:=by
 obtain ⟨f,g,i,e,h⟩:=h;exact ⟨f,g,i,e,h.step a b⟩
theorem dF.below {F:Nat->Prop} {w w':fl} {c:Nat} {e f g:Option Nat} {b:ft} {d:ar} (h:dF F w c e f g b d) (a:Bw w w'):dF F w' c e f g b d:=
 h.step (λk i=>a.block k (h.lt k i)) a.size
theorem bf.below {F:Nat->Prop} {w w':fl} {c:Nat} {d:ar} (h:bf F w c d) (a:Bw w w'):bf F w' c d:=by
 obtain ⟨e,f,g,b,h⟩:=h;exact ⟨e,f,g,b,h.below a⟩
theorem lr:bd cat0:=by
 refine ⟨⟨.nil, .nil, .nil,?_⟩,?_,?_,?_,?_,?_,?_,?_,?_,?_,?_⟩<;>simp [cat0]
theorem pO (w:fl):bf (λk=>k=w.heap.size) (w.alloc (e7 #[ee Y,ee Y,ee Y,e9 Y] 117)) w.heap.size cat0:=by
 refine ⟨Y,Y,Y,e9 Y,em w _,⟨[],rfl,rfl,?_⟩,rfl,rfl, .inl rfl,rfl,?_,?_,?_, .inl ⟨rfl,rfl,rfl⟩,λk b=>by rw [b];simp,lr⟩
 · intro p c;cases c
 · intro m a;cases a
 · intro m a;cases a
 · intro m a;cases a
theorem ak.empty {P:hD} {kt:g6} {K:Type} [DecidableEq K] {B:ez P kt K} {w:fl} {b:Nat} (h:w.heap[b]? =X (.map #[] 0)):ak B w b []:=by
 obtain ⟨d,⟨e,c,a,f⟩,g⟩:=ak.made (B:=B) w;rw [em] at a;exact ⟨d,⟨e,c,h.trans a,f⟩,g⟩
theorem aj {w:fl} {b c:Nat} {cs:Array ft} {t:g6} {P:hD} {kt:g6} {K:Type} [DecidableEq K] {B:ez P kt K} {l:List (K×ft)} (d:ak B w b l) (a:w.heap[c]? =X (e7 cs t (0,0))):b≠c:=by
 rintro rfl;obtain ⟨e,⟨f,k,h1,_⟩,_⟩:=d;rw [a] at h1;cases h1
theorem ii {F:Nat->Prop} {w:fl} {c:Nat} {m1 m2 m3:Option Nat} {u:ft} {d:ar} (h:dF F w c m1 m2 m3 u d):
 gi prog 57 #[e9 (X ⟨c,0,Y⟩)] w λe w'=>e=e4 (.tuple #[])/\∃y a b z,dF y w' c (X a) (X b) (X z) u d/\ag F w y w':=by
 rcases h.one with ⟨rfl,rfl,rfl⟩|⟨a,b,e,rfl,rfl,rfl,a4,a5,a6⟩
 · refine (qE c u w h.blk).mono ?_;rintro e w' ⟨rfl,rfl⟩
   · obtain ⟨i,o⟩:=Qe (((w.alloc (.map #[] 0)).alloc (.map #[] 0)).alloc (.map #[] 0));have R:=h.lt c h.fc;have a3:i.heap.size=w.heap.size+3:=by rw [<- o];simp
     have C:∀k,k<w.heap.size->i.heap[k]? =w.heap[k]? :=λk f=>by rw [<- o,es _ _ _ (by simp;omega),es _ _ _ (by simp;omega),es _ _ _ f]
     have M:i.heap[w.heap.size]? =X (.map #[] 0):=by rw [<- o,es _ _ _ (by simp;omega),es _ _ _ (by simp)];exact em w _
     have h1:i.heap[w.heap.size+1]? =X (.map #[] 0):=by rw [<- o,es _ _ _ (by simp)];have:=em (w.alloc (.map #[] 0)) (.map #[] 0);rwa [fx] at this
     have O:i.heap[w.heap.size+2]? =X (.map #[] 0):=by rw [<- o];have:=em ((w.alloc (.map #[] 0)).alloc (.map #[] 0)) (.map #[] 0);rwa [fx,fx] at this
     rw [o];obtain ⟨l,q⟩:=Qe (((i.setCell ⟨c,0,Y⟩ (ee (X w.heap.size))).setCell ⟨c,1,Y⟩ (ee (X (w.heap.size+1)))).setCell ⟨c,2,Y⟩ (ee (X (w.heap.size+2))));have a7:l.heap.size=w.heap.size+3:=by rw [<- q];simp [a3]
     have s:∀k,k≠c->l.heap[k]? =i.heap[k]? :=λk f=>by rw [<- q,eQ _ _ _ _ f,eQ _ _ _ _ f,eQ _ _ _ _ f]
     have T:l.heap[c]? =X (e7 #[ee (X w.heap.size),ee (X (w.heap.size+1)),ee (X (w.heap.size+2)),u] 117 (0,0)):=by rw [<- q];have D:=ap ((C c R).trans h.blk) 0 (ee (X w.heap.size));have E:=ap D 1 (ee (X (w.heap.size+1)));have G:=ap E 2 (ee (X (w.heap.size+2)));exact G
     rw [q];have x:∀j,w.heap.size+j≠c:=λj=>by omega
     have H:l.heap[w.heap.size]? =X (.map #[] 0):=(s _ (x 0)).trans M;have I:l.heap[w.heap.size+1]? =X (.map #[] 0):=(s _ (x 1)).trans h1;have L:l.heap[w.heap.size+2]? =X (.map #[] 0):=(s _ (x 2)).trans O;have A:∀k,k<w.heap.size->k≠c->l.heap[k]? =w.heap[k]? :=λk f W=>(s k W).trans (C k f);obtain ⟨ps,q1,q2,q3⟩:=h.vs;have a2:ps=[]:=by simpa using (show ps.map (λp=>(p.1,iC p.1 p.2))=[] from q2)
     subst a2;have V:d.ds=[]:=by simpa using (show d.ds.map (λp=>(p.1,hC U p.2))=[] from h.ds)
     have a1:d.ps=[]:=by simpa using (show d.ps.map (λp=>(p.1,fo p.2))=[] from h.ps)
     have a0:∀k,F k->k<w.heap.size:=h.lt;refine ⟨rfl,λk=>F k∨k=w.heap.size∨k=w.heap.size+1∨k=w.heap.size+2,w.heap.size,w.heap.size+1,w.heap.size+2,?_,?_⟩
     · refine ⟨T,⟨[],q1,ak.empty H,(by intro p hp;cases hp)⟩,?_,?_,?_, .inl h.fc,?_,?_,?_, .inr ⟨_,_,_,rfl,rfl,rfl,by omega,by omega,by omega⟩,?_,h.ok⟩
       · rw [V];exact ak.empty I
       · rw [a1];exact ak.empty L
       · rcases h.kn with v|⟨t,v,N⟩
         · exact .inl v
         · refine .inr ⟨t,v,(N.step (λk r=>A k (h.lt k r.1) r.2.1) (by omega)).wide λk r=>?_⟩;have:=h.lt k r.1;exact ⟨.inl r.1,r.2.1,λe=>by injection e with e;omega,λe=>by injection e with e;omega,λe=>by injection e with e;omega⟩
       · intro m g;injection g with g;exact .inr (.inl g.symm)
       · intro m g;injection g with g;exact .inr (.inr (.inl g.symm))
       · intro m g;injection g with g;exact .inr (.inr (.inr g.symm))
       · intro k f;rcases f with f|f|f|f
         · have:=a0 k f;omega
         all_goals omega
     · refine ⟨?_,?_,?_,by omega,?_,?_⟩
       · rw [<- q, <- o];rfl
       · rw [<- q, <- o];rfl
       · rw [<- q, <- o];rfl
       · intro k f hn;exact A k f λe=>hn (e ▸ h.fc)
       · intro k f;rcases f with f|f|f|f
         · exact .inl f
         all_goals exact .inr (by omega)
 · refine (qD c a w ((aa h.blk 0).trans rfl)).mono ?_;rintro z w' ⟨rfl,rfl⟩;exact ⟨rfl,F,a,b,e,h,ag.refl _ _⟩
end
section
open Go.RowKit Go.Maps Go.Shelf
theorem uT:∀u:fl,(zeroValue 3).run prog u= .ok (J U 0) u:=λu=>by kernel_rfl
theorem fT:∀u:fl,(zeroValue 139).run prog u= .ok (.agg #[J U 0,e5 false]) u:=λu=>by kernel_rfl
theorem jO:∀u:fl,(zeroValue 64).run prog u= .ok (.agg #[J U 0,J U 0,J U 0,J e8 0,J e8 0,e6 Y 0 0]) u:=λu=>by kernel_rfl
theorem l8 (q:Bool) (a b:Int) (m:Nat):aJ false q a b m=aJ false false a b m:=by unfold aJ;simp
def dJ (d:ar) (k:RK) (n:Int):Int:=aJ (findK d.ds k).isSome (decide ((findK d.ds k).getD 0=n)) ((findK d.ds k).getD 0) n d.ds.length
theorem ql (d:ar) (k:RK) (n:Int):dropC d k n=if dJ d k n=0 then ({d with ds:=insL ltRK d.ds k n},0) else (d,dJ d k n):=by
 unfold dropC dJ;cases findK d.ds k with
 |none=>simp only [hG,hH];rw [l8 (decide (0=n))]
 |some m=>rfl
theorem gg {t q:Bool} {a b:Int} {m:Nat} (h:aJ t q a b m=0) (c:t=false):m<5000:=by
 subst c;unfold aJ at h;simp only [Bool.false_and,Bool.false_eq_true,if_false,Bool.not_false,Bool.true_and] at h;by_cases h5:5000<=m
 · simp [h5] at h
 · omega
theorem fg {K V:Type} [DecidableEq K] {lt:K->K->Bool} (l:List (K×V)) (k:K) (v:V):(insL lt l k v).length<=l.length+1:=by
 induction l with
 |nil=>simp [insL]
 |cons p l ih=>
  unfold insL;split
  · simp only [gq];omega
  · split
    · simp only [gq];omega
    · simp only [gq];omega
theorem sj {K V:Type} [DecidableEq K] {lt:K->K->Bool} (T:Tot lt) {l:List (K×V)} (b:aq lt l) (k:K) (v:V) (h:(findK l k).isSome=true):(insL lt l k v).length=l.length:=by
 induction l with
 |nil=>simp [findK] at h
 |cons p l ih=>
  obtain ⟨h1,c⟩:=List.pairwise_cons.1 b;unfold insL;by_cases hp:lt p.1 k=true
  · rw [if_pos hp];have d:p.1≠k:=by intro e;rw [e,T.irr] at hp;cases hp
    have:(findK l k).isSome=true:=by unfold findK at h ⊢;rw [List.find?_cons] at h;simpa [d] using h
    simp only [gq];rw [ih c this]
  · rw [if_neg hp];by_cases hk:p.1=k
    · rw [if_pos hk];rfl
    · exfalso;rw [Option.isSome_iff_exists] at h;obtain ⟨x,a⟩:=h;rw [cR T b] at a;rcases List.mem_cons.1 a with a|a
      · exact hk (by rw [<- a])
      · exact hp (h1 _ a)
theorem p8 {K V:Type} [DecidableEq K] {lt:K->K->Bool} (T:Tot lt) {l:List (K×V)} (b:aq lt l) (k:K) (v:V) (a:l.length<=5000) (h:(findK l k).isSome=false->l.length<5000):(insL lt l k v).length<=5000:=by
 cases hf:(findK l k).isSome
 · have:=fg (lt:=lt) l k v;have:=h hf;omega
 · rw [sj T b k v hf];exact a
theorem cO {K V:Type} [DecidableEq K] {lt:K->K->Bool} (T:Tot lt) {l:List (K×V)} (c:aq lt l) {k:K} {v:V} {R:K×V->Prop} (h:∀p∈l,R p) (a:R (k,v)):∀p∈insL lt l k v,R p:=λp b=>by
 rcases (eh T c k v p).1 b with rfl|⟨h1,_⟩
 · exact a
 · exact h p h1
theorem bd.drop {d:ar} (h:bd d) {k:RK} {n:Int} (b:rkOk k) (c:i64B n) (e:dJ d k n=0):bd {d with ds:=insL ltRK d.ds k n}:=by
 refine ⟨⟨h.ok.vs,bW aN h.ok.ds k n,h.ok.ps,h.ok.apart⟩,h.vlen,?_,h.plen,h.right,h.vnum,cO aN h.ok.ds h.dnum c,h.pnum,h.vkey,cO aN h.ok.ds h.dkey b,h.pkey⟩;exact p8 aN h.ok.ds k n h.dlen λa=>gg e a
theorem dF.put2 {F:Nat->Prop} {w i:fl} {c a b e:Nat} {D:ft} {d:ar} {ds:List (RK×Int)} (h:dF F w c (X a) (X b) (X e) D d) (o:aw b w i) (g:ak recB i b (ds.map λp=>(p.1,J U p.2))) (A:bd {d with ds:=ds}):
 dF F (i.setCell ⟨c,3,Y⟩ (e9 Y)) c (X a) (X b) (X e) (e9 Y) {d with ds:=ds}:=by
 have t:c≠b:=λe=>(aj (show ak recB w b _ from h.ds) h.blk) e.symm;have x:c≠a:=λe=>by obtain ⟨ps,_,f,_⟩:=h.vs;exact (aj (show ak recB w a _ from f) h.blk) e.symm
 have y:c≠e:=λq=>(aj (show ak pairB w e _ from h.ps) h.blk) q.symm;rcases h.one with ⟨h1,_⟩|⟨E,G,q,h1,f,j,r,v,s⟩
 · cases h1
 injection h1 with h1;injection f with f;injection j with j
 subst h1;subst f;subst j;have l:∀k,k≠c->k≠b->(i.setCell ⟨c,3,Y⟩ (e9 Y)).heap[k]? =w.heap[k]? :=λk h1 f=>(eQ _ _ _ _ h1).trans (o.block k f);have C:(i.setCell ⟨c,3,Y⟩ (e9 Y)).heap.size=w.heap.size:=by rw [gd,o.size]
 refine ⟨?_,h.vs.step (λm g=>by injection g with g;subst g;exact l _ (g9 x) r) (λk u=>l k u.2.1 (λe=>u.2.2.2.1 (by rw [e]))) (by omega),?_,?_, .inl rfl,h.fc,h.f1,h.f2,h.f3, .inr ⟨a,b,e,rfl,rfl,rfl,r,v,s⟩,λk z=>by rw [C];exact h.lt k z,A⟩
 · exact ap ((o.block c t).trans h.blk) 3 (e9 Y)
 · exact g.block (eQ _ _ _ _ (g9 t))
 · exact ak.block (show ak pairB w e _ from h.ps) (l e (g9 y) (g9 s))
theorem vQ (F:Nat->Prop) (w:fl) (c:Nat) (d:ar) (h:bf F w c d) (k:RK) (n:Int) (T:rkOk k) (hn:i64B n):
 gi prog 27 #[e9 (X ⟨c,0,Y⟩),recK k,J U n] w λe w'=>e=e4 (J U (dropC d k n).2)/\∃l,bf l w' c (dropC d k n).1/\ag F w l w':=by
 have a1:=Z (ql d k n);obtain ⟨m1,m2,m3,kn,h⟩:=h;obtain ⟨f,g⟩:=k;unfold recK;dsimp only;obtain ⟨i,O⟩:=Qe (w.alloc (e7 #[J U f,J U g] 36));have R:Bw w i:=by rw [<- O];exact (er _ w).alloc (ej _) _
 have C:i.heap[w.heap.size]? =X (e7 #[J U f,J U g] 36 (0,0)):=by rw [<- O];exact em w _
 have h1:=h.below R;have c1:i.cell? ⟨c,1,Y⟩=X (.map m2):=(aa h1.blk 1).trans rfl;have b0:i.cell? ⟨w.heap.size,0,Y⟩=X (J U f):=(aa C 0).trans rfl;have b1:i.cell? ⟨w.heap.size,1,Y⟩=X (J U g):=(aa C 1).trans rfl;have V:=bQ.look_ok (w:=i.drew) (h1.ds.block (λ_ _=>rfl)) underlying114 uT (f,g) T;have ax:=λty=>bQ.len (w:=i.drew) (h1.ds.block (λ_ _=>rfl)) underlying114 ty;rw [ea d.ds (λn=>hC U n)] at V;rw [gc] at ax;have b3:(gt 114 (.map m2) (.agg #[J U f,J U g]) true).run prog i.drew= .ok (.tuple #[J U ((findK d.ds (f,g)).getD 0),e5 (findK d.ds (f,g)).isSome]) i.drew:=by refine Eq.trans V ?_;cases findK d.ds (f,g)<;>rfl
 have HX:Hid (dJ d (f,g) n=aJ (findK d.ds (f,g)).isSome (decide ((findK d.ds (f,g)).getD 0=n)) ((findK d.ds (f,g)).getD 0) n d.ds.length):=rfl;have al:Hid (dJ d (f,g) n=0->bd {d with ds:=insL ltRK d.ds (f,g) n}):=h.ok.drop T hn;clear V;generalize (findK d.ds (f,g)).isSome=there at *;generalize (findK d.ds (f,g)).getD 0=old at *;generalize d.ds.length=many at *;have M:Hid (∀W,gi prog 56 #[e5 there,e5 (decide (old=n)),J U old,J U n,J U many] W λe w'=>e=e4 (J U (dJ d (f,g) n))/\W=w'):=λW=>by rw [HX.o];exact gU _ _ _ _ _ W
 have HH:=Z h1;have a0:=Z R;have HB:=Z C;have a2:Hid (i.heap.size=w.heap.size+1):=by unfold Hid;rw [<- O];simp
 have ac:=Z h.lt;have b2:c<w.heap.size:=h.lt c h.fc;clear h h1 R C;by_cases hx:dJ d (f,g) n=0
 · rw [hx] at M;have A:=Z hx;clear hx;go_enter func27,ntmps27;go_wp2;go_region
   go_wp2_with (first
    |(go_at_call 56;((with_reducible refine fy (M.o _) ?_);rintro e w2 ⟨rfl,rfl⟩))
    |(go_at_call 57;((with_reducible refine fy (ii (HH.o.below (er _ i).drew)) ?_);rintro e m ⟨rfl,l,a,b,e',s,G⟩)))
   have a6:¬F w.heap.size:=λhf=>by have:=ac.o _ hf;omega
   have b4:¬l w.heap.size:=G.not (by have:=a2.o;show w.heap.size<i.heap.size;omega) a6;have N:m.heap[w.heap.size]? =X (e7 #[J U f,J U g] 36 (0,0)):=(G.block _ (by have:=a2.o;show w.heap.size<i.heap.size;omega) a6).trans HB.o;have E:ak recB m b _:=s.ds;obtain ⟨st,av,au,a7,a3,o,a9⟩:=ak.entry (w:=m.drew) (ak.drew E) gX underlying114 uT (f,g) T (by rw [gc];have:=s.ok.dlen;unfold maxLen;omega);have I:c≠b:=λe=>(aj E s.blk) e.symm;have D:w.heap.size≠b:=λe=>(aj E N) e.symm;have u:m.drew.cell? ⟨c,1,Y⟩=X (ee (X b))/\m.drew.cell? ⟨w.heap.size,0,Y⟩=X (J U f)/\m.drew.cell? ⟨w.heap.size,1,Y⟩=X (J U g):=⟨(aa s.blk 1).trans rfl,(aa N 0).trans rfl,(aa N 1).trans rfl⟩;have r:=Z s;have ao:=Z G;clear s G E;go_wp2_with fail
   refine wT (λw'=>w'.cell? ⟨c,1,Y⟩=X (ee (X b))/\w'.cell? ⟨w.heap.size,0,Y⟩=X (J U f)/\w'.cell? ⟨w.heap.size,1,Y⟩=X (J U g)) 12 ?_;refine Qb [0,4,5,6,1,2,3] u (λw' h=>h) ?_;refine Dp 7 λK j=>?_;refine bq rfl a7 ?_;have t:=And.intro ((o.cell (p:=⟨c,1,Y⟩) I).trans u.1) (And.intro ((o.cell (p:=⟨w.heap.size,0,Y⟩) D).trans u.2.1) ((o.cell (p:=⟨w.heap.size,1,Y⟩) D).trans u.2.2));generalize gb m.drew b (.map av au)=w4 at *;refine j _ _ (λ_=>t) ?_;clear j K;go_simp;refine Qb [8] t (λw' h=>h) ?_
   refine Dp 9 λK j=>?_;obtain ⟨q,a8,a5,z⟩:=a9 w4 (J U n) a3;refine aY rfl a8 ?_;have H:=And.intro ((z.cell (p:=⟨c,1,Y⟩) I).trans t.1) (And.intro ((z.cell (p:=⟨w.heap.size,0,Y⟩) D).trans t.2.1) ((z.cell (p:=⟨w.heap.size,1,Y⟩) D).trans t.2.2));refine j _ _ (λ_=>H) ?_;clear j K;go_simp;refine Ds 10 H ?_;refine Qb [11] H (λw' h=>h) ?_
   have y:aw b m q:=(aw.trans ⟨o.os,o.tape,o.output,o.size,o.block⟩ z);have a4:ak recB q b ((insL ltRK d.ds (f,g) n).map λp=>(p.1,hC U p.2)):=a5.perm (jy aN r.ok.ok.ds (λ_ v=>hC U v) (f,g) n);have hF:=r.put2 y a4 (al A.o);have c3:q.cell? ⟨c,3,Y⟩=X kn:=(y.cell (p:=⟨c,3,Y⟩) I).trans ((aa r.blk 3).trans rfl);have f3:q.frozen? ⟨c,3,Y⟩=false:=(y.frozen (p:=⟨c,3,Y⟩) I).trans (ab r.blk 3);have HF:=Z hF;have ad:=Z y;clear hF u t H a5 a4 a8 z o a9 a7 a3 y;refine Dl 12 ?_;go_wp2_with fail
   go_ret;rw [a1.o,if_pos A.o];refine ⟨rfl,l,⟨_,_,_,_,HF.o⟩,?_⟩;have ay:ag F w F i.drew:=ag.of_below a0.drew;have aC:ag F i.drew l m:=ao.o;have aS:ag l m l q:=ag.of_only ad.o (r.f2 b rfl);have aT:ag l q l (q.setCell ⟨c,3,Y⟩ (e9 Y)):=ag.of_only (aw.setCell (aw.refl c q) 3 _) r.fc;exact ((ay.trans aC).trans aS).trans aT
 · have A:=Z hx;have b5:((dJ d (f,g) n)==0)=false:=by simpa using hx
   generalize dJ d (f,g) n=x at *;go_enter func27,ntmps27;go_wp2;go_region;go_wp2_with (go_at_call 56;((with_reducible refine fy (M.o _) ?_);rintro e w2 ⟨rfl,rfl⟩))
   go_ret;rw [a1.o,if_neg A.o];exact ⟨rfl,F,⟨_,_,_,_,HH.below (er _ i).drew⟩,ag.of_below a0.drew⟩
theorem q36 (a b c d:Int) (w:fl):(binOp .eql 36 (.agg #[J U a,J U b]) (.agg #[J U c,J U d])).run prog w= .ok (e5 (decide ((a,b)=(c,d)))) w:=by
 by_cases h1:a=c
 · by_cases h2:b=d
   · subst h1;subst h2;go_simp
   · subst h1;go_simp
 · go_simp
theorem Db (a:Int) (c:Bool) (b:Int) (d:Bool) (w:fl):(binOp .eql 139 (.agg #[J U a,e5 c]) (.agg #[J U b,e5 d])).run prog w= .ok (e5 (decide (a=b)&&decide (c=d))) w:=by
 by_cases h1:a=b
 · subst h1;cases c<;>cases d<;>go_simp
 · go_simp
theorem db {w:fl} {b t:Nat} {x y:ft} (h:w.heap[b]? =X (e7 #[x,y] t (0,0))):w.cell? ⟨b,0,Y⟩=X x/\w.cell? ⟨b,1,Y⟩=X y:=⟨(aa h 0).trans rfl,(aa h 1).trans rfl⟩
theorem ns {w:fl} {b t:Nat} {x y z u:ft} (h:w.heap[b]? =X (e7 #[x,y,z,u] t (0,0))):w.cell? ⟨b,0,Y⟩=X x/\w.cell? ⟨b,1,Y⟩=X y/\w.cell? ⟨b,2,Y⟩=X z/\w.cell? ⟨b,3,Y⟩=X u:=⟨(aa h 0).trans rfl,(aa h 1).trans rfl,(aa h 2).trans rfl,(aa h 3).trans rfl⟩
def ep (d:ar) (p:PK) (n:Int) (j:Bool):Int:=aJ (findK d.ps p).isSome (decide (((findK d.ps p).getD (0,false)).1=n)&&decide (((findK d.ps p).getD (0,false)).2=j)) ((findK d.ps p).getD (0,false)).1 n d.ps.length
theorem kh (d:ar) (a b:RK) (n:Int) (j:Bool) (c:a≠b):decideC d a b n j=if ep d (pairK a b) n j=0 then ({d with ps:=insL ltPK d.ps (pairK a b) (n,j)},0) else (d,ep d (pairK a b) n j):=by
 unfold decideC ep;rw [if_neg c];cases findK d.ps (pairK a b) with
 |none=>simp only [hG,hH];rw [l8 (decide (0=n)&&decide (false=j))]
 |some m=>rfl
theorem pK {a b:RK} (c:rkOk a) (d:rkOk b):pkOk (pairK a b):=by
 unfold pairK;split
 · exact ⟨d,c⟩
 · exact ⟨c,d⟩
theorem AK {a b:RK} (h:a≠b):ltRK (pairK a b).1 (pairK a b).2=true:=by
 unfold pairK;split
 · assumption
 · rename_i c;rcases aN.tot a b h with h1|h1
   · exact h1
   · exact absurd h1 c
theorem bd.decide {d:ar} (h:bd d) {a b:RK} {n:Int} {j:Bool} (e:a≠b) (c:rkOk a) (f:rkOk b) (i:i64B n) (k:ep d (pairK a b) n j=0):bd {d with ps:=insL ltPK d.ps (pairK a b) (n,j)}:=by
 refine ⟨⟨h.ok.vs,h.ok.ds,bW cY h.ok.ps _ _,cO cY h.ok.ps h.ok.apart (AK e)⟩,h.vlen,h.dlen,?_,h.right,h.vnum,h.dnum,cO cY h.ok.ps h.pnum i,h.vkey,h.dkey,cO cY h.ok.ps h.pkey (pK c f)⟩;exact p8 cY h.ok.ps _ _ h.plen λg=>gg k g
theorem dF.put3 {F:Nat->Prop} {w i:fl} {c a b e:Nat} {D:ft} {d:ar} {ps:List (PK×(Int×Bool))} (h:dF F w c (X a) (X b) (X e) D d) (o:aw e w i) (g:ak pairB i e (ps.map λp=>(p.1,fo p.2))) (A:bd {d with ps:=ps}):
 dF F (i.setCell ⟨c,3,Y⟩ (e9 Y)) c (X a) (X b) (X e) (e9 Y) {d with ps:=ps}:=by
 have y:c≠b:=λe=>(aj (show ak recB w b _ from h.ds) h.blk) e.symm;have x:c≠a:=λe=>by obtain ⟨ps,_,f,_⟩:=h.vs;exact (aj (show ak recB w a _ from f) h.blk) e.symm
 have t:c≠e:=λq=>(aj (show ak pairB w e _ from h.ps) h.blk) q.symm;rcases h.one with ⟨h1,_⟩|⟨E,G,q,h1,f,j,v,r,s⟩
 · cases h1
 injection h1 with h1;injection f with f;injection j with j
 subst h1;subst f;subst j;have l:∀k,k≠c->k≠e->(i.setCell ⟨c,3,Y⟩ (e9 Y)).heap[k]? =w.heap[k]? :=λk h1 f=>(eQ _ _ _ _ h1).trans (o.block k f);have C:(i.setCell ⟨c,3,Y⟩ (e9 Y)).heap.size=w.heap.size:=by rw [gd,o.size]
 refine ⟨?_,h.vs.step (λm g=>by injection g with g;subst g;exact l _ (g9 x) r) (λk u=>l k u.2.1 (λe=>u.2.2.2.2 (by rw [e]))) (by omega),?_,?_, .inl rfl,h.fc,h.f1,h.f2,h.f3, .inr ⟨a,b,e,rfl,rfl,rfl,v,r,s⟩,λk z=>by rw [C];exact h.lt k z,A⟩
 · exact ap ((o.block c t).trans h.blk) 3 (e9 Y)
 · exact ak.block (show ak recB w b _ from h.ds) (l b (g9 y) s)
 · exact g.block (eQ _ _ _ _ (g9 t))
theorem oD (F:Nat->Prop) (w:fl) (c:Nat) (d:ar) (h:bf F w c d) (a b:RK) (n:Int) (j:Bool) (ha:rkOk a) (D:rkOk b) (hn:i64B n):
 gi prog 76 #[e9 (X ⟨c,0,Y⟩),recK a,recK b,fo (n,j)] w λe w'=>e=e4 (J U (decideC d a b n j).2)/\∃I,bf I w' c (decideC d a b n j).1/\ag F w I w':=by
 by_cases hab:a=b
 · have HE:Hid (decideC d a b n j=(d,1)):=by unfold Hid decideC;rw [if_pos hab]
   subst hab;obtain ⟨g,i⟩:=a;unfold recK fo;dsimp only;have HB:Hid (∀o o' d0,Bw w (((w.alloc o).alloc o').alloc d0)):=λo o' d0=>(((er _ w).alloc (ej _) o).alloc (by simp) o').alloc (by simp;omega) d0;have HH:=Z h;clear h;go_enter func76,ntmps76;go_wp2;go_ret;rw [HE.o];exact ⟨rfl,F,HH.below (HB _ _ _),ag.of_below (HB _ _ _)⟩
 have b6:=Z (kh d a b n j hab);have c7:Hid (ep d (pairK a b) n j=0->bd {d with ps:=insL ltPK d.ps (pairK a b) (n,j)}):=by obtain ⟨_,_,_,_,h⟩:=h;exact h.ok.decide hab ha D hn
 have bb:pkOk (pairK a b):=pK ha D;have b8:Hid (pairK a b=if ltRK b a then (b,a) else (a,b)):=rfl;obtain ⟨m1,m2,C,kn,h⟩:=h;obtain ⟨g,i⟩:=a;obtain ⟨l,q⟩:=b;have cb:(br (l,q) (g,i)<0)↔ltRK (l,q) (g,i)=true:=eP _ _;have dy:decide ((g,i)=(l,q))=false:=decide_eq_false hab;have HC:Hid (∀W,gi prog 49 #[.agg #[J U l,J U q], .agg #[J U g,J U i]] W λe w'=>e=e4 (J U (br (l,q) (g,i)))/\bo W w'):=λW=>fa (l,q) (g,i) W;unfold recK fo;dsimp only;have e0:=λw=>q36 g i l q w;rw [dy] at e0;have e1:=Db;obtain ⟨f,bB⟩:=Qe ((((w.alloc (e7 #[J U g,J U i] 36)).alloc (e7 #[J U l,J U q] 36)).alloc (e7 #[J U n,e5 j] 139)));have aS:Bw w f:=by rw [<- bB];exact (((er _ w).alloc (ej _) _).alloc (by simp) _).alloc (by simp;omega) _
 have d8:f.heap.size=w.heap.size+3:=by rw [<- bB];simp
 have c9:f.heap[w.heap.size]? =X (e7 #[J U g,J U i] 36 (0,0)):=by rw [<- bB,es _ _ _ (by simp;omega),es _ _ _ (by simp)];exact em w _
 have ca:f.heap[w.heap.size+1]? =X (e7 #[J U l,J U q] 36 (0,0)):=by rw [<- bB,es _ _ _ (by simp)];have:=em (w.alloc (e7 #[J U g,J U i] 36)) (e7 #[J U l,J U q] 36);rwa [fx] at this
 have d4:f.heap[w.heap.size+2]? =X (e7 #[J U n,e5 j] 139 (0,0)):=by rw [<- bB];have:=em ((w.alloc (e7 #[J U g,J U i] 36)).alloc (e7 #[J U l,J U q] 36)) (e7 #[J U n,e5 j] 139);rwa [fx,fx] at this
 have x0:f.cell? ⟨w.heap.size,0,Y⟩=X (J U g):=(aa c9 0).trans rfl;have x1:f.cell? ⟨w.heap.size,1,Y⟩=X (J U i):=(aa c9 1).trans rfl;have y0:f.cell? ⟨w.heap.size+1,0,Y⟩=X (J U l):=(aa ca 0).trans rfl;have y1:f.cell? ⟨w.heap.size+1,1,Y⟩=X (J U q):=(aa ca 1).trans rfl;have HH:=Z (h.below aS);have da:=Z c9;have dc:=Z ca;have dd:=Z d4;have d1:=Z aS;have b9:=Z d8;have bk:=Z h.lt;obtain ⟨Wp,cs⟩:=Qe (f.alloc (e7 #[J U g,J U i,J U l,J U q] 134));have d7:Bw f Wp:=by rw [<- cs];exact (er _ f).alloc (ej _) _
 have d9:Wp.heap.size=f.heap.size+1:=by rw [<- cs];simp
 have d5:Wp.heap[f.heap.size]? =X (e7 #[J U g,J U i,J U l,J U q] 134 (0,0)):=by rw [<- cs];exact em f _
 have di:=Z d5;have dk:=Z d7;have dp:=Z d9
 have b7:Hid (∀H,bo Wp H->H.heap[f.heap.size]? =X (e7 #[J U g,J U i,J U l,J U q] 134 (0,0))/\H.heap[w.heap.size]? =X (e7 #[J U g,J U i] 36 (0,0))/\H.heap[w.heap.size+1]? =X (e7 #[J U l,J U q] 36 (0,0))/\
  H.heap[w.heap.size+2]? =X (e7 #[J U n,e5 j] 139 (0,0))/\dF F H c m1 m2 C kn d/\Bw w H):=λH hg=>by
  have D:=hg.below
  have h1:=b9.o
  have R:=dp.o
  have a9:Bw f H:=btr dk.o D (by omega)
  exact ⟨(D.block _ (by omega)).trans di.o,(a9.block _ (by omega)).trans da.o,(a9.block _ (by omega)).trans dc.o,(a9.block _ (by omega)).trans dd.o,HH.o.below a9,btr d1.o a9 d1.o.size⟩
 clear h aS c9 ca d4 d8 hab d7 d9 d5;by_cases hlt:ltRK (l,q) (g,i)=true
 · have dx:br (l,q) (g,i)<0:=cb.2 hlt;rw [if_pos hlt] at b8;rw [b8.o] at bb b6 c7;generalize br (l,q) (g,i)=cm at *;clear hlt cb b8;obtain ⟨v0,v1⟩:=db (b7 Wp (bo.refl _)).2.1;obtain ⟨v2,v3⟩:=db (b7 Wp (bo.refl _)).2.2.1;go_enter func76,ntmps76;go_wp2_with (go_at_call 49;go_loud (((with_reducible refine fy (HC.o _) ?_);rintro e H ⟨rfl,bT⟩;obtain ⟨g0,g1,g2,g3,g4,g5⟩:=b7.o _ bT;obtain ⟨z0,z1⟩:=db g1;obtain ⟨z2,z3⟩:=db g2;obtain ⟨p0,p1,p2,p3⟩:=ns g0;have f0:=ab g0 0;have f1:=ab g0 1;have f2:=ab g0 2;have f3:=ab g0 3;have G0:=Z g0;have G3:=Z g3;have G4:=Z g4;have G5:=Z g5;clear g0 g1 g2 g3 g4 g5 bT)))
   have a5:Hid ((((((H.setCell ⟨f.heap.size,0,Y⟩ (J U l)).setCell ⟨f.heap.size,1,Y⟩ (J U q)).setCell ⟨f.heap.size,2,Y⟩ (J U g)).setCell ⟨f.heap.size,3,Y⟩ (J U i))).heap[f.heap.size]? =X (e7 #[J U l,J U q,J U g,J U i] 134 (0,0))):=ap (ap (ap (ap G0.o 0 (J U l)) 1 (J U q)) 2 (J U g)) 3 (J U i);have av:Hid (aw f.heap.size H ((((H.setCell ⟨f.heap.size,0,Y⟩ (J U l)).setCell ⟨f.heap.size,1,Y⟩ (J U q)).setCell ⟨f.heap.size,2,Y⟩ (J U g)).setCell ⟨f.heap.size,3,Y⟩ (J U i))):=((((aw.refl _ H).setCell 0 _).setCell 1 _).setCell 2 _).setCell 3 _;generalize ((((H.setCell ⟨f.heap.size,0,Y⟩ (J U l)).setCell ⟨f.heap.size,1,Y⟩ (J U q)).setCell ⟨f.heap.size,2,Y⟩ (J U g)).setCell ⟨f.heap.size,3,Y⟩ (J U i))=s at *;have G:Hid (dF F s c m1 m2 C kn d):=G4.o.step (λk hf=>av.o.block k (λe=>by have:=bk.o k hf;have:=b9.o;omega)) (by rw [av.o.size];exact ej _);have ad:Hid (s.heap[w.heap.size+2]? =X (e7 #[J U n,e5 j] 139 (0,0))):=(av.o.block _ (by have:=b9.o;omega)).trans G3.o;have ac:Hid (Bw w s):=G5.o.trans (av.o.below (by have:=b9.o;omega));clear z0 z1 z2 z3 p0 p1 p2 p3 f0 f1 f2 f3 x0 x1 y0 y1 v0 v1 v2 v3;have b3:=λty=>bQ.len (G.ps) underlying115 ty;rw [gc] at b3;have au:Hid (∀W,(∀m,C=X m->W.heap[m]? =s.heap[m]?)->(gt 115 (.map C) (.agg #[J U l,J U q,J U g,J U i]) true).run prog W= .ok (.tuple #[.agg #[J U ((findK d.ps ((l,q),g,i)).getD (0,false)).1,e5 ((findK d.ps ((l,q),g,i)).getD (0,false)).2],e5 (findK d.ps ((l,q),g,i)).isSome]) W):=λW hW=>by have:=bQ.look_ok (w:=W) (G.ps.block hW) underlying115 fT ((l,q),g,i) bb;rw [ea d.ps fo] at this;refine Eq.trans this ?_;cases findK d.ps ((l,q),g,i)<;>rfl
   have HX:Hid (ep d ((l,q),g,i) n j=aJ (findK d.ps ((l,q),g,i)).isSome (decide (((findK d.ps ((l,q),g,i)).getD (0,false)).1=n)&&decide (((findK d.ps ((l,q),g,i)).getD (0,false)).2=j)) ((findK d.ps ((l,q),g,i)).getD (0,false)).1 n d.ps.length):=rfl;generalize (findK d.ps ((l,q),g,i)).isSome=there at *;generalize (findK d.ps ((l,q),g,i)).getD (0,false)=ov at *;obtain ⟨o1,o2⟩:=ov;dsimp only at au HX;have dn:Hid (d.ps.length=d.ps.length):=rfl;generalize hmany:d.ps.length=many at b3 HX;have HN:Hid (∀W,gi prog 56 #[e5 there,e5 (decide (o1=n)&&decide (o2=j)),J U o1,J U n,J U many] W λe w'=>e=e4 (J U (ep d ((l,q),g,i) n j))/\W=w'):=λW=>by rw [HX.o];exact gU _ _ _ _ _ W
   have cc:=Z hmany;clear hmany;obtain ⟨p0,p1,p2,p3⟩:=ns a5.o
   have y:s.drew.cell? ⟨c,2,Y⟩=X (.map C)/\s.drew.cell? ⟨f.heap.size,0,Y⟩=X (J U l)/\s.drew.cell? ⟨f.heap.size,1,Y⟩=X (J U q)/\s.drew.cell? ⟨f.heap.size,2,Y⟩=X (J U g)/\s.drew.cell? ⟨f.heap.size,3,Y⟩=X (J U i)/\(∀m,C=X m->s.drew.heap[m]? =s.heap[m]?):=
    ⟨(aa G.blk 2).trans rfl,p0,p1,p2,p3,λ_ _=>rfl⟩
   clear p0 p1 p2 p3
   have al:Hid (∀W,Bw s W->W.cell? ⟨c,2,Y⟩=X (.map C)/\W.cell? ⟨f.heap.size,0,Y⟩=X (J U l)/\W.cell? ⟨f.heap.size,1,Y⟩=X (J U q)/\W.cell? ⟨f.heap.size,2,Y⟩=X (J U g)/\W.cell? ⟨f.heap.size,3,Y⟩=X (J U i)/\(∀m,C=X m->W.heap[m]? =s.heap[m]?)):=λW D=>
    ⟨fN D _ _ y.1,fN D _ _ y.2.1,fN D _ _ y.2.2.1,fN D _ _ y.2.2.2.1,fN D _ _ y.2.2.2.2.1,λm hm=>D.block m (G.lt m (G.f3 m hm))⟩
   refine wT (λW=>W.cell? ⟨c,2,Y⟩=X (.map C)/\W.cell? ⟨f.heap.size,0,Y⟩=X (J U l)/\W.cell? ⟨f.heap.size,1,Y⟩=X (J U q)/\W.cell? ⟨f.heap.size,2,Y⟩=X (J U g)/\W.cell? ⟨f.heap.size,3,Y⟩=X (J U i)/\(∀m,C=X m->W.heap[m]? =s.heap[m]?)) 11 ?_;refine Qb [0,4,1,2,3] y (λw' h=>h) ?_;refine tk 5 ?_ rfl y ?_ ?_;rotate_left;intro w' h;obtain ⟨T,h1,R,V,h4,M⟩:=h;have hl:=au w' M;go_simp;rfl;try go_simp
   refine Qb [6,7,8] y (λw' h=>h) ?_;refine Dp 9 λK r=>?_;go_simp;have bO:∀o,Bw s (s.drew.alloc o):=λo=>(er _ s).drew.alloc (ej _) o;refine r _ _ (λ_=>al _ (bO _)) ?_;clear r K;refine Dp 10 λK r=>?_;go_simp;have aT:∀o,Bw s (s.alloc o).drew:=λo=>((er _ s).alloc (ej _) o).drew;refine r _ _ (λ_=>al _ (aT _)) ?_;clear r K;refine Dl 11 ?_;obtain ⟨z,a8⟩:=Qe ((s.alloc (e7 #[J U o1,e5 o2] 139)).drew);have bw:z.heap[s.heap.size]? =X (e7 #[J U o1,e5 o2] 139 (0,0)):=by rw [<- a8];exact em s _
   have a3:Bw s z:=by rw [<- a8];exact aT _
   have a4:=Z (G.below a3);have d6:=(a3.block _ (ae a5.o)).trans a5.o;have ay:=(a3.block _ (ae ad.o)).trans ad.o;have bc:Hid (Bw w z):=btr ac.o a3 ac.size;have cv:=λty=>bQ.len (w:=z.drew) (a4.ps.block (λ_ _=>rfl)) underlying115 ty;rw [gc,cc.o] at cv;rw [a8];clear b3 y al bO aT a8 a3 au G ad ac a5 av;obtain ⟨s0,s1⟩:=db bw;obtain ⟨r0,r1⟩:=db ay;have ds:z.cell? ⟨c,2,Y⟩=X (.map C):=(aa a4.blk 2).trans rfl;have d2:=Z d6;have bp:=Z ay;clear bw ay d6;go_wp2_with fail
   refine wT (λW=>W=z.drew) 14 ?_;refine Qb [0,1,2,4,6,8,3,5,7,9,10,11] rfl (λw' h=>h) ?_;refine Ds 12 rfl ?_;refine Dp 13 λK r=>?_;go_simp;go_at_call 56;refine (HN _).mono ?_;rintro e w9 ⟨rfl,rfl⟩;refine r _ _ (λ_=>rfl) ?_;clear r K;refine Dl 14 ?_;by_cases hx:ep d ((l,q),g,i) n j=0
   · have a6:=Z hx;rw [hx];go_wp2_with (go_at_call 57;((with_reducible refine fy (ii (a4.o.below (er _ z).drew)) ?_);rintro e A ⟨rfl,I,ma,mb,u,N,y⟩))
     have cy:¬F f.heap.size:=λhf=>by have:=bk.o _ hf;have:=b9.o;omega
     have cx:¬F (w.heap.size+2):=λhf=>by have:=bk.o _ hf;omega
     have cq:f.heap.size<z.drew.heap.size:=ae d2.o;have cl:w.heap.size+2<z.drew.heap.size:=ae bp.o;have cu:=(y.block _ cq cy).trans d2.o;have ax:=(y.block _ cl cx).trans bp.o;have a0:ak pairB A u _:=N.ps;obtain ⟨st,bt,bs,c4,bD,c1,c6⟩:=ak.entry (w:=A.drew) (ak.drew a0) ut underlying115 fT ((l,q),g,i) bb (by rw [gc];have:=N.ok.plen;unfold maxLen;omega);have b0:c≠u:=λe=>(aj a0 N.blk) e.symm;have cp:f.heap.size≠u:=λe=>(aj a0 cu) e.symm;have ch:w.heap.size+2≠u:=λe=>(aj a0 ax) e.symm;have ao:Hid (∀W,aw u A W->W.cell? ⟨c,2,Y⟩=X (ee (X u))/\W.cell? ⟨f.heap.size,0,Y⟩=X (J U l)/\W.cell? ⟨f.heap.size,1,Y⟩=X (J U q)/\W.cell? ⟨f.heap.size,2,Y⟩=X (J U g)/\W.cell? ⟨f.heap.size,3,Y⟩=X (J U i)/\W.cell? ⟨w.heap.size+2,0,Y⟩=X (J U n)/\W.cell? ⟨w.heap.size+2,1,Y⟩=X (e5 j)):=λW ho=>by obtain ⟨p0,p1,p2,p3⟩:=ns ((ho.block _ cp).trans cu);obtain ⟨r0,r1⟩:=db ((ho.block _ ch).trans ax);exact ⟨(aa ((ho.block c b0).trans N.blk) 2).trans rfl,p0,p1,p2,p3,r0,r1⟩
     have b4:aw u A A.drew:=(aw.refl u A).drew;have bA:=ao _ b4;have L:=Z N;have cg:=Z y;clear N y a0 cu ax;go_wp2_with fail
     refine wT (λW=>W.cell? ⟨c,2,Y⟩=X (ee (X u))/\W.cell? ⟨f.heap.size,0,Y⟩=X (J U l)/\W.cell? ⟨f.heap.size,1,Y⟩=X (J U q)/\W.cell? ⟨f.heap.size,2,Y⟩=X (J U g)/\W.cell? ⟨f.heap.size,3,Y⟩=X (J U i)/\W.cell? ⟨w.heap.size+2,0,Y⟩=X (J U n)/\W.cell? ⟨w.heap.size+2,1,Y⟩=X (e5 j)) 12 ?_;refine Qb [0,4,5,6,1,2,3] bA (λw' h=>h) ?_;refine Dp 7 λK r=>?_;refine bq rfl c4 ?_;have b5:aw u A (gb A.drew u (.map bt bs)):=b4.trans c1;have aC:=ao _ b5;generalize gb A.drew u (.map bt bs)=w4 at *;refine r _ _ (λ_=>aC) ?_;clear r K;go_simp;refine Qb [8] aC (λw' h=>h) ?_
     refine Dp 9 λK r=>?_;obtain ⟨E,c5,c0,c2⟩:=c6 w4 (.agg #[J U n,e5 j]) bD;refine aY rfl c5 ?_;have O:aw u A E:=b5.trans c2;have a7:=ao _ O;refine r _ _ (λ_=>a7) ?_;clear r K;go_simp;refine Ds 10 a7 ?_;refine Qb [11] a7 (λw' h=>h) ?_
     have bY:ak pairB E u ((insL ltPK d.ps ((l,q),g,i) (n,j)).map λp=>(p.1,fo p.2)):=c0.perm (jy cY L.ok.ok.ps (λ_ v=>fo v) ((l,q),g,i) (n,j));have hF:=L.put3 O bY (c7 a6.o);have c3:E.cell? ⟨c,3,Y⟩=X kn:=(O.cell (p:=⟨c,3,Y⟩) b0).trans ((aa L.blk 3).trans rfl);have f3:E.frozen? ⟨c,3,Y⟩=false:=(O.frozen (p:=⟨c,3,Y⟩) b0).trans (ab L.blk 3);have HF:=Z hF;have cd:=Z O;clear hF bA aC a7 c0 bY c5 c2 c1 c6 c4 bD O b4 b5;refine Dl 12 ?_;go_wp2_with fail
     go_ret;rw [b6.o,if_pos a6.o];refine ⟨rfl,I,⟨_,_,_,_,HF.o⟩,?_⟩;have cz:ag F w F z.drew:=ag.of_below bc.drew;have cP:ag I A I E:=ag.of_only cd.o (L.f3 u rfl);have cQ:ag I E I (E.setCell ⟨c,3,Y⟩ (e9 Y)):=ag.of_only (aw.setCell (aw.refl c E) 3 _) L.fc;exact ((cz.trans cg.o).trans cP).trans cQ
   · have a6:=Z hx;have dz:((ep d ((l,q),g,i) n j)==0)=false:=by simpa using hx
     generalize ep d ((l,q),g,i) n j=x at *;go_wp2_with fail
     go_ret;rw [b6.o,if_neg a6.o];exact ⟨rfl,F,⟨_,_,_,_,a4.below (er _ z).drew⟩,ag.of_below bc.drew⟩
 · have dx:¬(br (l,q) (g,i)<0):=λhh=>hlt (cb.1 hh);rw [if_neg hlt] at b8;rw [b8.o] at bb b6 c7;generalize br (l,q) (g,i)=cm at *;clear hlt cb b8;obtain ⟨v0,v1⟩:=db (b7 Wp (bo.refl _)).2.1;obtain ⟨v2,v3⟩:=db (b7 Wp (bo.refl _)).2.2.1;go_enter func76,ntmps76;go_wp2_with (go_at_call 49;go_loud (((with_reducible refine fy (HC.o _) ?_);rintro e s ⟨rfl,bT⟩;obtain ⟨g0,g1,g2,g3,g4,g5⟩:=b7.o _ bT;have a5:=Z g0;have ad:=Z g3;have G:=Z g4;have ac:=Z g5;have av:=Z g5;clear g0 g1 g2 g3 g4 g5 bT)))
   clear x0 x1 y0 y1 v0 v1 v2 v3;have b3:=λty=>bQ.len (G.ps) underlying115 ty;rw [gc] at b3;have au:Hid (∀W,(∀m,C=X m->W.heap[m]? =s.heap[m]?)->(gt 115 (.map C) (.agg #[J U g,J U i,J U l,J U q]) true).run prog W= .ok (.tuple #[.agg #[J U ((findK d.ps ((g,i),l,q)).getD (0,false)).1,e5 ((findK d.ps ((g,i),l,q)).getD (0,false)).2],e5 (findK d.ps ((g,i),l,q)).isSome]) W):=λW hW=>by have:=bQ.look_ok (w:=W) (G.ps.block hW) underlying115 fT ((g,i),l,q) bb;rw [ea d.ps fo] at this;refine Eq.trans this ?_;cases findK d.ps ((g,i),l,q)<;>rfl
   have HX:Hid (ep d ((g,i),l,q) n j=aJ (findK d.ps ((g,i),l,q)).isSome (decide (((findK d.ps ((g,i),l,q)).getD (0,false)).1=n)&&decide (((findK d.ps ((g,i),l,q)).getD (0,false)).2=j)) ((findK d.ps ((g,i),l,q)).getD (0,false)).1 n d.ps.length):=rfl;generalize (findK d.ps ((g,i),l,q)).isSome=there at *;generalize (findK d.ps ((g,i),l,q)).getD (0,false)=ov at *;obtain ⟨o1,o2⟩:=ov;dsimp only at au HX;have dn:Hid (d.ps.length=d.ps.length):=rfl;generalize hmany:d.ps.length=many at b3 HX;have HN:Hid (∀W,gi prog 56 #[e5 there,e5 (decide (o1=n)&&decide (o2=j)),J U o1,J U n,J U many] W λe w'=>e=e4 (J U (ep d ((g,i),l,q) n j))/\W=w'):=λW=>by rw [HX.o];exact gU _ _ _ _ _ W
   have cc:=Z hmany;clear hmany;obtain ⟨p0,p1,p2,p3⟩:=ns a5.o
   have y:s.drew.cell? ⟨c,2,Y⟩=X (.map C)/\s.drew.cell? ⟨f.heap.size,0,Y⟩=X (J U g)/\s.drew.cell? ⟨f.heap.size,1,Y⟩=X (J U i)/\s.drew.cell? ⟨f.heap.size,2,Y⟩=X (J U l)/\s.drew.cell? ⟨f.heap.size,3,Y⟩=X (J U q)/\(∀m,C=X m->s.drew.heap[m]? =s.heap[m]?):=
    ⟨(aa G.blk 2).trans rfl,p0,p1,p2,p3,λ_ _=>rfl⟩
   clear p0 p1 p2 p3
   have al:Hid (∀W,Bw s W->W.cell? ⟨c,2,Y⟩=X (.map C)/\W.cell? ⟨f.heap.size,0,Y⟩=X (J U g)/\W.cell? ⟨f.heap.size,1,Y⟩=X (J U i)/\W.cell? ⟨f.heap.size,2,Y⟩=X (J U l)/\W.cell? ⟨f.heap.size,3,Y⟩=X (J U q)/\(∀m,C=X m->W.heap[m]? =s.heap[m]?)):=λW D=>
    ⟨fN D _ _ y.1,fN D _ _ y.2.1,fN D _ _ y.2.2.1,fN D _ _ y.2.2.2.1,fN D _ _ y.2.2.2.2.1,λm hm=>D.block m (G.lt m (G.f3 m hm))⟩
   refine wT (λW=>W.cell? ⟨c,2,Y⟩=X (.map C)/\W.cell? ⟨f.heap.size,0,Y⟩=X (J U g)/\W.cell? ⟨f.heap.size,1,Y⟩=X (J U i)/\W.cell? ⟨f.heap.size,2,Y⟩=X (J U l)/\W.cell? ⟨f.heap.size,3,Y⟩=X (J U q)/\(∀m,C=X m->W.heap[m]? =s.heap[m]?)) 11 ?_;refine Qb [0,4,1,2,3] y (λw' h=>h) ?_;refine tk 5 ?_ rfl y ?_ ?_;rotate_left;intro w' h;obtain ⟨T,h1,R,V,h4,M⟩:=h;have hl:=au w' M;go_simp;rfl;try go_simp
   refine Qb [6,7,8] y (λw' h=>h) ?_;refine Dp 9 λK r=>?_;go_simp;have bO:∀o,Bw s (s.drew.alloc o):=λo=>(er _ s).drew.alloc (ej _) o;refine r _ _ (λ_=>al _ (bO _)) ?_;clear r K;refine Dp 10 λK r=>?_;go_simp;have aT:∀o,Bw s (s.alloc o).drew:=λo=>((er _ s).alloc (ej _) o).drew;refine r _ _ (λ_=>al _ (aT _)) ?_;clear r K;refine Dl 11 ?_;obtain ⟨z,a8⟩:=Qe ((s.alloc (e7 #[J U o1,e5 o2] 139)).drew);have bw:z.heap[s.heap.size]? =X (e7 #[J U o1,e5 o2] 139 (0,0)):=by rw [<- a8];exact em s _
   have a3:Bw s z:=by rw [<- a8];exact aT _
   have a4:=Z (G.below a3);have a9:=(a3.block _ (ae a5.o)).trans a5.o;have ay:=(a3.block _ (ae ad.o)).trans ad.o;have bc:Hid (Bw w z):=btr ac.o a3 ac.size;have cv:=λty=>bQ.len (w:=z.drew) (a4.ps.block (λ_ _=>rfl)) underlying115 ty;rw [gc,cc.o] at cv;rw [a8];clear b3 y al bO aT a8 a3 au G ad ac a5 av;obtain ⟨s0,s1⟩:=db bw;obtain ⟨r0,r1⟩:=db ay;have ds:z.cell? ⟨c,2,Y⟩=X (.map C):=(aa a4.blk 2).trans rfl;have d3:=Z a9;have bp:=Z ay;clear bw ay a9;go_wp2_with fail
   refine wT (λW=>W=z.drew) 14 ?_;refine Qb [0,1,2,4,6,8,3,5,7,9,10,11] rfl (λw' h=>h) ?_;refine Ds 12 rfl ?_;refine Dp 13 λK r=>?_;go_simp;go_at_call 56;refine (HN _).mono ?_;rintro e w9 ⟨rfl,rfl⟩;refine r _ _ (λ_=>rfl) ?_;clear r K;refine Dl 14 ?_;by_cases hx:ep d ((g,i),l,q) n j=0
   · have a6:=Z hx;rw [hx];go_wp2_with (go_at_call 57;((with_reducible refine fy (ii (a4.o.below (er _ z).drew)) ?_);rintro e A ⟨rfl,I,ma,mb,u,N,y⟩))
     have cy:¬F f.heap.size:=λhf=>by have:=bk.o _ hf;have:=b9.o;omega
     have cx:¬F (w.heap.size+2):=λhf=>by have:=bk.o _ hf;omega
     have cq:f.heap.size<z.drew.heap.size:=ae d3.o;have cl:w.heap.size+2<z.drew.heap.size:=ae bp.o;have aS:=(y.block _ cq cy).trans d3.o;have ax:=(y.block _ cl cx).trans bp.o;have a0:ak pairB A u _:=N.ps;obtain ⟨st,bt,bs,c4,bD,c1,c6⟩:=ak.entry (w:=A.drew) (ak.drew a0) ut underlying115 fT ((g,i),l,q) bb (by rw [gc];have:=N.ok.plen;unfold maxLen;omega);have b0:c≠u:=λe=>(aj a0 N.blk) e.symm;have cp:f.heap.size≠u:=λe=>(aj a0 aS) e.symm;have ch:w.heap.size+2≠u:=λe=>(aj a0 ax) e.symm;have ao:Hid (∀W,aw u A W->W.cell? ⟨c,2,Y⟩=X (ee (X u))/\W.cell? ⟨f.heap.size,0,Y⟩=X (J U g)/\W.cell? ⟨f.heap.size,1,Y⟩=X (J U i)/\W.cell? ⟨f.heap.size,2,Y⟩=X (J U l)/\W.cell? ⟨f.heap.size,3,Y⟩=X (J U q)/\W.cell? ⟨w.heap.size+2,0,Y⟩=X (J U n)/\W.cell? ⟨w.heap.size+2,1,Y⟩=X (e5 j)):=λW ho=>by obtain ⟨p0,p1,p2,p3⟩:=ns ((ho.block _ cp).trans aS);obtain ⟨r0,r1⟩:=db ((ho.block _ ch).trans ax);exact ⟨(aa ((ho.block c b0).trans N.blk) 2).trans rfl,p0,p1,p2,p3,r0,r1⟩
     have b4:aw u A A.drew:=(aw.refl u A).drew;have bA:=ao _ b4;have L:=Z N;have cg:=Z y;clear N y a0 aS ax;go_wp2_with fail
     refine wT (λW=>W.cell? ⟨c,2,Y⟩=X (ee (X u))/\W.cell? ⟨f.heap.size,0,Y⟩=X (J U g)/\W.cell? ⟨f.heap.size,1,Y⟩=X (J U i)/\W.cell? ⟨f.heap.size,2,Y⟩=X (J U l)/\W.cell? ⟨f.heap.size,3,Y⟩=X (J U q)/\W.cell? ⟨w.heap.size+2,0,Y⟩=X (J U n)/\W.cell? ⟨w.heap.size+2,1,Y⟩=X (e5 j)) 12 ?_;refine Qb [0,4,5,6,1,2,3] bA (λw' h=>h) ?_;refine Dp 7 λK r=>?_;refine bq rfl c4 ?_;have b5:aw u A (gb A.drew u (.map bt bs)):=b4.trans c1;have aC:=ao _ b5;generalize gb A.drew u (.map bt bs)=w4 at *;refine r _ _ (λ_=>aC) ?_;clear r K;go_simp;refine Qb [8] aC (λw' h=>h) ?_
     refine Dp 9 λK r=>?_;obtain ⟨E,c5,c0,c2⟩:=c6 w4 (.agg #[J U n,e5 j]) bD;refine aY rfl c5 ?_;have O:aw u A E:=b5.trans c2;have a7:=ao _ O;refine r _ _ (λ_=>a7) ?_;clear r K;go_simp;refine Ds 10 a7 ?_;refine Qb [11] a7 (λw' h=>h) ?_
     have bY:ak pairB E u ((insL ltPK d.ps ((g,i),l,q) (n,j)).map λp=>(p.1,fo p.2)):=c0.perm (jy cY L.ok.ok.ps (λ_ v=>fo v) ((g,i),l,q) (n,j));have hF:=L.put3 O bY (c7 a6.o);have c3:E.cell? ⟨c,3,Y⟩=X kn:=(O.cell (p:=⟨c,3,Y⟩) b0).trans ((aa L.blk 3).trans rfl);have f3:E.frozen? ⟨c,3,Y⟩=false:=(O.frozen (p:=⟨c,3,Y⟩) b0).trans (ab L.blk 3);have HF:=Z hF;have cd:=Z O;clear hF bA aC a7 c0 bY c5 c2 c1 c6 c4 bD O b4 b5;refine Dl 12 ?_;go_wp2_with fail
     go_ret;rw [b6.o,if_pos a6.o];refine ⟨rfl,I,⟨_,_,_,_,HF.o⟩,?_⟩;have cz:ag F w F z.drew:=ag.of_below bc.drew;have cP:ag I A I E:=ag.of_only cd.o (L.f3 u rfl);have cQ:ag I E I (E.setCell ⟨c,3,Y⟩ (e9 Y)):=ag.of_only (aw.setCell (aw.refl c E) 3 _) L.fc;exact ((cz.trans cg.o).trans cP).trans cQ
   · have a6:=Z hx;have dz:((ep d ((g,i),l,q) n j)==0)=false:=by simpa using hx
     generalize ep d ((g,i),l,q) n j=x at *;go_wp2_with fail
     go_ret;rw [b6.o,if_neg a6.o];exact ⟨rfl,F,⟨_,_,_,_,a4.below (er _ z).drew⟩,ag.of_below bc.drew⟩
theorem s7 (F:Nat->Prop) (w:fl) (c:Nat) (d:ar) (h:bf F w c d) (a b:RK) (n:Int) (q:rkOk a) (r:rkOk b) (s:i64B n):
 gi prog 39 #[e9 (X ⟨c,0,Y⟩),recK a,recK b,J U n] w λe w'=>e=e4 (J U (decideC d a b n false).2)/\∃g,bf g w' c (decideC d a b n false).1/\ag F w g w':=by
 have i:∀o f,Bw w ((w.alloc o).alloc f):=λo f=>((er _ w).alloc (ej _) o).alloc (by simp) f;have l:=Z (λo f=>oD F ((w.alloc o).alloc f) c d (h.below (i o f)) a b n false q r s);have k:=Z i;clear h i;obtain ⟨t,u⟩:=a;obtain ⟨v,x⟩:=b;unfold recK fo at *;dsimp only at *;go_enter func39,ntmps39;go_wp2_with (go_at_call 76;((with_reducible refine fy (l.o _ _) ?_);rintro e y ⟨rfl,j⟩;have m:=Z j;clear j))
 go_ret;obtain ⟨g,h1,p⟩:=m.o;exact ⟨rfl,g,h1,(ag.of_below (k _ _)).trans p⟩
theorem vM (F:Nat->Prop) (w:fl) (c:Nat) (d:ar) (h:bf F w c d) (a b:RK) (n:Int) (q:rkOk a) (r:rkOk b) (s:i64B n):
 gi prog 40 #[e9 (X ⟨c,0,Y⟩),recK a,recK b,J U n] w λe w'=>e=e4 (J U (decideC d a b n true).2)/\∃g,bf g w' c (decideC d a b n true).1/\ag F w g w':=by
 have i:∀o f,Bw w ((w.alloc o).alloc f):=λo f=>((er _ w).alloc (ej _) o).alloc (by simp) f;have l:=Z (λo f=>oD F ((w.alloc o).alloc f) c d (h.below (i o f)) a b n true q r s);have k:=Z i;clear h i;obtain ⟨t,u⟩:=a;obtain ⟨v,x⟩:=b;unfold recK fo at *;dsimp only at *;go_enter func40,ntmps40;go_wp2_with (go_at_call 76;((with_reducible refine fy (l.o _ _) ?_);rintro e y ⟨rfl,j⟩;have m:=Z j;clear j))
 go_ret;obtain ⟨g,h1,p⟩:=m.o;exact ⟨rfl,g,h1,(ag.of_below (k _ _)).trans p⟩
end
end Go.Proofs.YtjcimanddakkaaaGreatDoor
