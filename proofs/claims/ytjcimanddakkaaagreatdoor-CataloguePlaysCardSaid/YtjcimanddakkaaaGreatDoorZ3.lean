/- Lemmas. -/
import Derived.Test.YtjcimanddakkaaaGreatDoorZ2
import Derived.RangeFuncNested
import Derived.RangeFuncBound
import Derived.Shelf.RegionOpen
import Derived.OwnWalkIn
import Derived.LoopNIn
import Derived.LoopIn
import Derived.StillTailTactics
import Derived.DeepKeys4
set_option maxRecDepth 100000
set_option maxHeartbeats 8000000
namespace Go.Proofs.YtjcimanddakkaaaGreatDoor
open Go.Ending renaming returned→e5
open Go.Value renaming bool→e6,int→J,slice→e7,pointer→ej,map→em
open _root_.Option renaming some→X,none→Y
open Go.IntKind renaming i64→U,u8→e9
open Go.Obj renaming cells→e8
open Go.Lib renaming hid→Z
open Tryz
open _root_.Nat renaming le_refl→er,zero_le→g7,zero_add→hd
open Go.World renaming alloc_heap_new→es,putObj_heap_other→ft,size_alloc→fz,size_setCell→gp,ownsRow_nil→g8,putObj_heap_same→hC
open Go.RowKit.Below renaming refl→eQ,heap_alloc→fl,heap_setCell→fp
open Go renaming World→fr,Value→fy,Calls→gq,rounds_succ→gO,KeepsOthers→gQ,grownBy_putObj'→g6,TypeId→g9,Program→hH,wp_loop_rounds→hI
open _root_.List renaming take_succ_eq_append_getElem→fx,take_of_length_le→gd,length_map→gn,flatMap_cons→gs,length_cons→gx,getElem_mem→gy,nil_append→hi,map_cons→hE,length_append→hL
open Go.Calls renaming mono→gb
open Go.ChangeMaps renaming setBlock→gi
open Go.Program renaming keyLits→gt
open Go.Instr renaming lookup→gz
open Go.Lib renaming run_eql_slice_nil→gP
open _root_.Ne renaming symm→ht
open _root_.Int renaming tdiv_eq_ediv_of_nonneg→hv
open _root_.Prod renaming ext→hD
open Go.Value renaming int→hG
open _root_.Option renaming isSome_none→hJ,getD_none→hK
section
open Go.RowKit Go.Shelf
structure cO (B:Nat) (M:Nat->Prop) (X:fr) (M':Nat->Prop) (Y:fr):Prop where
 os:Y.os=X.os
 tape:Y.tape=X.tape
 output:Y.output=X.output
 size:X.heap.size<=Y.heap.size
 block:∀k,k<X.heap.size->¬M k->(B<=k->∀o,X.heap[k]? =some o->o.isCells=true)->Y.heap[k]? =X.heap[k]?
 new:∀k,M' k->M k∨X.heap.size<=k
 lt:∀k,M' k->k<Y.heap.size
def gU {α:Type} (B:Nat) (I:(Nat->Prop)->List α->fr->Prop):Prop:=∀M s b a c,I M s b->cO B M b a c->I a s c
def mI (M:Nat->Prop) (a b:fr):Prop:=∀k,M k->b.heap[k]? =a.heap[k]?
section
variable {F:Fence} {n:Nat} {P:hH}
def jc {α:Type} (F:Fence) (n:Nat) (P:hH) (g:Nat) (lb:Array fy) (i:α->Array fy) (S h:List α->Prop) (G:List α->α->Prop) (f:Nat->Prop) (j:fr):Prop:=
 ∀(l:Nat) (J Jx:(Nat->Prop)->List α->fr->Prop) (W:fr),Bw j W->gU W.heap.size J->
  (∀M b x c,J M b c->G b x->YieldAt F (n - 1) P l (i x) c λe a=>
   (e=e5 (e6 true)/\J M (b++[x]) a/\mI M c a/\gQ c a)∨(e=e5 (e6 false)/\Jx M (b++[x]) a))->
  J f [] W->
  CallsIn F n P g (#[.func (.yield l) #[] #[]]++lb) W λe a=>(∃v,e=e5 v)/\((∃M d,S d/\J M d a)∨(∃M b,h b/\Jx M b a))
def AR {α:Type} (M:Nat->Prop) (I:(Nat->Prop)->List α->fr->Prop) (b:Code->(Nat->Prop)->List α->fr->Prop) (a:List α) (W:fr):Exit->Act->fr->Prop
 | .normal,_,W'=>gQ W W'/\mI M W W'/\I M a W'
 | .ret,_,W'=>gQ W W'/\b .ret M a W'
 | .exit id,_,W'=>gQ W W'/\b (.exit id) M a W'
 | .goto t,_,W'=>gQ W W'/\b (.goto t) M a W'
 | .panic _,_,_=>False
 | .outgrown,_,_=>False
theorem cO.put {B:Nat} {M:Nat->Prop} {a:fr} (d:∀k,M k->k<a.heap.size) (l:Nat) (g:B<=l) (o b:Obj) (i:a.heap[l]? =X o) (f:o.isCells=false):cO B M a M (a.putObj l b):=
 ⟨rfl,rfl,rfl,(g6 a l b).size,λk c _ h=>ft (λe=>by subst e;have:=h g o i;rw [f] at this;cases this),λ_ h=> .inl h,λk c=>Nat.lt_of_lt_of_le (d k c) (g6 a l b).size⟩
theorem cO.alloc {B:Nat} {M:Nat->Prop} {a:fr} (c:∀k,M k->k<a.heap.size) (o:Obj):cO B M a M (a.alloc o):=
 ⟨rfl,rfl,rfl,by simp,λk b _ _=>fl a o k b,λ_ h=> .inl h,λk b=>by have:=c k b;simp;omega⟩
theorem lc {α:Type} {g:Operand} {ps:Array Tmp} {assign body:Code} {Q:Exit->Act->fr->Prop} {a:Act} {w:fr}
 (b8:F.round=Y) (h1:1<=n) {gf:Nat} {lb:Array fy} (hg:a.eval g= .func (.func gf) #[] lb) (ac:F.fn gf) (eg:∀args w,(callFunc gf args).run P w= .ok (.enter gf args) w)
 {a0:α->Array fy} {S Sp:List α->Prop} {G:List α->α->Prop} {M0:Nat->Prop} {w0:fr} (b9:jc F (n - 1) P gf lb a0 S Sp G M0 w0) (a4:∀k,M0 k->k<w.heap.size) (a7:Bw w0 w) (b7:∀x,(a0 x).size=ps.size)
 (I:(Nat->Prop)->List α->fr->Prop) (Ix:Code->(Nat->Prop)->List α->fr->Prop) (O:gU w.heap.size I) (a2:∀c,gU w.heap.size (Ix c)) (a6:∀M s C,I M s C->∀k,M k->k<C.heap.size) (a5:∀c M s C,Ix c M s C->∀k,M k->k<C.heap.size)
 (h0:I M0 [] w) (a₁:α->Act)
 (ax:∀(l:Nat) (x:α) (W:fr) (K:Act->fr->Prop),K (a₁ x) W->
  assign.wpIn (F.inRound l) (n - 1 - 1) P (Exit.then K (λ_ _ _=>False)) {tmps:=(ps.zip (a0 x)).foldl (λt (p,v)=>t.setIfInBounds p v) a.tmps,defers:=[]} W)
 (aC:∀(l:Nat) (M:Nat->Prop) (f:List α) (x:α) (W:fr),I M f W->G f x->body.wpIn (F.inRound l) (n - 1 - 1) P (AR M I Ix (f++[x]) W) (a₁ x) W)
 (aS:∀(D:Nat) (M:Nat->Prop) (xs:List α) (W:fr),w.heap.size<=D->S xs->I M xs W->W.heap[D]? =X (.deferred (X []))->Q .normal {a with defers:={target:= .collected D,args:= #[]}::a.defers} W)
 (bb:∀(D:Nat) (c:Code) (M:Nat->Prop) (f:List α) (W:fr),w.heap.size<=D->Sp f->Ix c M f W->W.heap[D]? =X (.deferred (X []))->c.wpIn F n P Q {a with defers:={target:= .collected D,args:= #[]}::a.defers} W):
 (Code.rangeFunc g ps assign body).wpIn F n P Q a w:=by
 refine wpIn_rangeFunc ?_;intro fn aT;rw [b8];obtain ⟨rec,A⟩:∃rec:LoopState->Option Code->Loop,rec=λst pe=>{state:=st,pending:=pe,fn,tmps:=a.tmps,params:=ps,assign,body,defers:=w.heap.size}:=⟨_,rfl⟩;obtain ⟨r,R⟩:=Qe ((w.alloc (.deferred (X []))).alloc (.loop (rec .ready Y)));have ao:r.heap[w.heap.size+1]? =X (.loop (rec .ready Y)):=by rw [<- R];have:=es (w.alloc (.deferred (X []))) (.loop (rec .ready Y));rwa [fz] at this
 have al:r.heap[w.heap.size]? =X (.deferred (X [])):=by rw [<- R];exact (fl _ _ _ (by simp)).trans (es w _)
 have ad:I M0 [] r:=by rw [<- R];exact O _ _ _ _ _ (O _ _ _ _ _ h0 (cO.alloc a4 _)) (cO.alloc (λk b=>by have:=a4 k b;simp;omega) _)
 have bc:r.heap.size=w.heap.size+2:=by rw [<- R];simp
 have ay:Bw w0 r:=by rw [<- R];exact a7.trans ((((eQ _ w).alloc (er _) _).alloc (by simp) _).mono a7.size)
 refine ⟨w.heap.size+1,[{target:= .collected w.heap.size,args:= #[]}],r,{target:= .fn (.func gf) lb,args:= #[.func (.yield (w.heap.size+1)) #[] #[]]},r,gf,
  #[.func (.yield (w.heap.size+1)) #[] #[]]++lb,r,?_,?_,?_,?_,λ_=>h1,?_⟩
 · rw [<- R,A];exact run_enterLoop_outer _ _ _ _ _
 · simp only [resolve,hg];simp [go_sem]
 · intro f' a8;simp [Target.leads] at a8;subst a8;exact ac
 · simp [invoke,go_sem,eg]
 · refine (b9 (w.heap.size+1)
    (λM f W=>I M f W/\¬M (w.heap.size+1)/\¬M w.heap.size/\W.heap[w.heap.size+1]? =X (.loop (rec .ready Y))/\W.heap[w.heap.size]? =X (.deferred (X [])))
    (λM f W=>∃c,Ix c M f W/\W.heap[w.heap.size+1]? =X (.loop (rec .done (X c)))/\W.heap[w.heap.size]? =X (.deferred (X [])))
    r ay
    (λM s C M' a9 hs y=>by
     obtain ⟨z,V,n2,d,b⟩:=hs
     have b3:w.heap.size+1<C.heap.size:=(Array.getElem?_eq_some_iff.1 d).1
     have hT:cO w.heap.size M C M' a9:=⟨y.os,y.tape,y.output,y.size,λk b h2 h3=>y.block k b h2 λhB o L=>h3 (by omega) o L,y.new,y.lt⟩
     exact ⟨O _ _ _ _ _ z hT,λh=>by rcases y.new _ h with h|h;exact V h;omega,λh=>by rcases y.new _ h with h|h;exact n2 h;omega,
      (y.block _ b3 V (λhB=>by omega)).trans d,(y.block _ (by omega) n2 (λhB=>by omega)).trans b⟩)
    ?_ ⟨ad,λh=>by have:=a4 _ h;omega,λh=>by have:=a4 _ h;omega,ao,al⟩).mono ?_
   ·
    rintro M f x W ⟨z,V,n2,d,b⟩ b5
    have b6:w.heap.size+1<W.heap.size:=(Array.getElem?_eq_some_iff.1 d).1
    have hy:=run_yield (P:=P) (args:=a0 x) d (by rw [A];exact b7 x)
    rw [A] at hy
    refine ⟨fn,_,assign,body,hy,roundIn_of_wpIn aT (ax _ x W _ ⟨_,run_beginRound d (by rw [A]),?_⟩)⟩
    have b4:(W.putObj (w.heap.size+1) (.loop {rec .ready Y with state:= .busy})).heap[w.heap.size+1]? =X (.loop {rec .ready Y with state:= .busy}):=hC b6
    have b1:(W.putObj (w.heap.size+1) (.loop {rec .ready Y with state:= .busy})).heap[w.heap.size]? =X (.deferred (X [])):=(ft (by omega)).trans b
    have au:=a6 _ _ _ z
    have b0:=O _ _ _ _ _ z (cO.put au (w.heap.size+1) (by omega) _ (.loop {rec .ready Y with state:= .busy}) d rfl)
    refine wpIn_mono (aC _ M f x _ b0 b5) ?_
    have a1:∀(q:Option Code) (i:fr),gQ (W.putObj (w.heap.size+1) (.loop {rec .ready Y with state:= .busy})) i->
     (Instr.endRound (w.heap.size+1) q).run P i= .ok (e6 q.isNone) (i.putObj (w.heap.size+1) (.loop (rec (if q.isNone then .ready else .done) q)))/\
     i.heap[w.heap.size+1]? =X (.loop {rec .ready Y with state:= .busy})/\
     (i.putObj (w.heap.size+1) (.loop (rec (if q.isNone then .ready else .done) q))).heap[w.heap.size+1]? =X (.loop (rec (if q.isNone then .ready else .done) q))/\
     (i.putObj (w.heap.size+1) (.loop (rec (if q.isNone then .ready else .done) q))).heap[w.heap.size]? =X (.deferred (X [])):=λq i j=>by
     have m:=j.same _ _ b4 rfl
     have:=run_endRound (P:=P) q m
     rw [A] at this ⊢
     exact ⟨this,by rw [A] at m;exact m,hC (Array.getElem?_eq_some_iff.1 m).1,(ft (by omega)).trans (j.same _ _ b1 rfl)⟩
    rintro e a3 i T
    cases e with
    |normal=>
     obtain ⟨j,b2,u⟩:=T
     obtain ⟨N,m,E,H⟩:=a1 Y i j
     refine ⟨_,_,N, .inl ⟨rfl,⟨O _ _ _ _ _ u (cO.put (a6 _ _ _ u) _ (by omega) _ _ m rfl),V,n2,E,H⟩,λk b=>?_,?_⟩⟩
     · have e1:k≠w.heap.size+1:=λe=>V (e ▸ b)
       exact ((ft (by omega)).trans (b2 k b)).trans (ft (by omega))
     · refine ⟨Nat.le_trans (Nat.le_trans (g6 W (w.heap.size+1) _).size j.size) (g6 i (w.heap.size+1) _).size,λk o L hc=>?_⟩
       by_cases e1:k=w.heap.size+1
       · subst e1
         rw [d] at L
         injection L with L
         subst L
         exact E
       · exact (ft (by omega)).trans (j.same k o ((ft (by omega)).trans L) hc)
    |ret=>
     obtain ⟨j,u⟩:=T
     obtain ⟨N,m,E,H⟩:=a1 (X .ret) i j
     exact ⟨_,_,N, .inr ⟨rfl, .ret,a2 _ _ _ _ _ _ u (cO.put (a5 _ _ _ _ u) _ (by omega) _ _ m rfl),E,H⟩⟩
    |exit id=>
     obtain ⟨j,u⟩:=T
     obtain ⟨N,m,E,H⟩:=a1 (X (.exit id)) i j
     exact ⟨_,_,N, .inr ⟨rfl, .exit id,a2 _ _ _ _ _ _ u (cO.put (a5 _ _ _ _ u) _ (by omega) _ _ m rfl),E,H⟩⟩
    |goto t=>
     obtain ⟨j,u⟩:=T
     obtain ⟨N,m,E,H⟩:=a1 (X (.goto t)) i j
     exact ⟨_,_,N, .inr ⟨rfl, .goto t,a2 _ _ _ _ _ _ u (cO.put (a5 _ _ _ _ u) _ (by omega) _ _ m rfl),E,H⟩⟩
    |panic ch=>exact T.elim
    |outgrown=>exact T.elim
   ·
    rintro e W2 ⟨⟨v,rfl⟩,(⟨M,xs,hS,z,V,n2,d,b⟩|⟨M,f,av,c,z,d,b⟩)⟩
    · exact ⟨Y,_,by have:=run_endLoop (P:=P) d (by rw [A];simp);rw [A] at this;exact this,aS _ M xs _ (er _) hS (O _ _ _ _ _ z (cO.put (a6 _ _ _ z) _ (by omega) _ _ d rfl)) ((ft (by omega)).trans b)⟩
    · exact ⟨X c,_,by have:=run_endLoop (P:=P) d (by rw [A];simp);rw [A] at this;exact this,bb _ c M f _ (er _) av (a2 c _ _ _ _ _ z (cO.put (a5 _ _ _ _ z) _ (by omega) _ _ d rfl)) ((ft (by omega)).trans b)⟩
end
end
section
open Go.RowKit Go.Shelf
section
variable {P:hH} {ops:Array Oper} {Q:Exit->Act->fr->Prop}
theorem qW {n:Nat} {a:String} {args:Array fy} {w:fr} {R:fy->fr->Prop} (h:Rows P a args w R):RowsIn Fence.wide n P a args w R:=
 λc cs _=>let ⟨v,w',r,s⟩:=h c cs;⟨v,w',r,stepsIn_wide.2 s⟩
theorem sP {n l:Nat} (b:1<=n) {o:Oper} {a:Act} {K:Act->fr->Prop} {r:Result Next} (h:o.upon P a K Q r):o.uponIn (Fence.wide.inRound l) n P a K Q r:=by
 cases r with
 |ok x w'=>
  cases x<;>simp only [Oper.upon,Oper.uponIn] at h ⊢ <;>
   first
    |exact h
    |exact ⟨λ_=>b,CallsIn.inRound l (callsIn_wide.2 h)⟩
    |exact ⟨λ_=>b,qW h⟩
 |halt x w'=>cases x<;>simp only [Oper.upon,Oper.uponIn] at h ⊢ <;>exact h
def kQ (ops:Array Oper):Bool:=ops.toList.all λo=>match o.op with | .defer _=>false|_=>true
theorem pp (h:kQ ops=true) {i:Nat} {o:Oper} (a:ops[i]? =X o):∀c,o.op≠ .defer c:=λc e=>by
 unfold kQ at h;rw [List.all_eq_true] at h;have b:o∈ops.toList:=by rw [<- Array.getElem?_toList] at a;exact List.mem_of_getElem? a
 have:=h o b;rw [e] at this;cases this
theorem xf {n l:Nat} (m:1<=n) {e:Region.Mode} (j:kQ ops=true) (p:¬LetsOut Q):∀(c:Nat) (d:Array Bool) (a:Act) (w:fr),
 wpAny P e ops Q c d a w->wpAnyIn (Fence.wide.inRound l) n P e ops Q c d a w:=by
 intro c;induction c with
 |zero=>intro d a w h;exact h
 |succ c ih=>
  rintro d a w ⟨f,g⟩;refine ⟨f,λi k=>?_⟩;have b:=g i k;unfold wpOp at b;unfold wpOpIn;cases ho:ops[i]? with
  |none=>rw [ho] at b;exact ih _ _ _ b
  |some o=>
   rw [ho] at b;simp only at b ⊢;by_cases hw:Region.wanted o (yielded ops a.tmps)=true
   · rw [if_pos hw] at b ⊢;refine ⟨λ_ _=>trivial,?_⟩;rw [Oper.semAt_eq _ _ _ (pp j ho)];rcases b with b|b
     · exact sP m (Oper.wp_mono (λa w=>ih _ a w) b)
     · exact absurd b.2 p
   · rw [if_neg hw] at b ⊢;exact ⟨λ_ _=>trivial,ih _ _ _ b⟩
theorem mO {id m l:Nat} {b:List Oper} {a:Act} {w:fr} (S:fr->Prop) (z:Nat) (e:P.follows .mixedOrders=true) (c:1<=m) (d:kQ b.toArray=true) (f:¬LetsOut Q)
 (h:anyT P .any b.toArray Q S z b.toArray.size (Array.replicate b.toArray.size false) a w.drew):(Code.region id b.toArray true).wpIn (Fence.wide.inRound l) m P Q a w:=
 wpIn_region_any e (xf c d f _ _ _ _ (mA _ _ _ _ h))
end
end
section
open Go.RowKit Go.Maps Go.Shelf
theorem AU (b:Nat) (x y:Int) (w:fr) (a:w.cell? ⟨b,0,Y⟩=X (J U x)) (c1:w.cell? ⟨b,1,Y⟩=X (J U y)):
 gq prog 90 #[e7 (X ⟨b,0,Y⟩) 2 2] w λe w'=>e=e5 (J U (if x≠0 then x else y))/\w=w':=by
 by_cases hx:x=0
 · subst hx;by_cases hy:y=0
   · subst hy;go_enter func90,ntmps90;go_wp2;refine hI 3 ?_;rw [gO];go_wp2;rw [gO];go_wp2;rw [gO];go_wp2;go_ret;exact ⟨rfl,rfl⟩
   · go_enter func90,ntmps90;go_wp2;refine hI 3 ?_;rw [gO];go_wp2;rw [gO];go_wp2;go_ret;exact ⟨rfl,rfl⟩
 · rw [if_pos hx];go_enter func90,ntmps90;go_wp2;refine hI 3 ?_;rw [gO];go_wp2;go_ret;exact ⟨rfl,rfl⟩
theorem uL (W:fr) (x y:fy) (t n:Nat) (h:W.heap.size=n):(W.alloc (e8 #[x,y] t)).drew.cell? ⟨n,0,Y⟩=X x/\(W.alloc (e8 #[x,y] t)).drew.cell? ⟨n,1,Y⟩=X y:=by
 subst h;have a:(W.alloc (e8 #[x,y] t)).heap[W.heap.size]? =X (e8 #[x,y] t (0,0)):=es W _;exact ⟨(aa a 0).trans rfl,(aa a 1).trans rfl⟩
def recK (a:RK):fy:= .agg #[J U a.1,J U a.2]
theorem jq (a b:RK) (w:fr):gq prog 25 #[recK a,recK b] w λe w'=>e=e5 (e6 (ltRK a b))/\Bw w w':=by
 obtain ⟨c,f⟩:=a;obtain ⟨d,g⟩:=b;unfold recK ltRK;dsimp only;by_cases h:c=d
 · subst h;go_enter func25,ntmps25;go_wp2;go_ret;exact ⟨ap (by simp),((eQ _ w).alloc (er _) _).alloc (by simp) _⟩
 · have i:(c==d)=false:=by simpa using h
   go_enter func25,ntmps25;go_wp2;go_ret;exact ⟨ap (by simp [h]),((eQ _ w).alloc (er _) _).alloc (by simp) _⟩
theorem eV (a b:RK) (w:fr):gq prog 49 #[recK a,recK b] w λe w'=>e=e5 (J U (br a b))/\bo w w':=by
 obtain ⟨g,i⟩:=a;obtain ⟨j,k⟩:=b;unfold recK br;dsimp only;have z:Hid (∀(x y:Int) (W:fr),gq prog 91 #[J U x,J U y] W λe w'=>e=e5 (J U (fg x y))/\W=w'):=iU;have H:Hid (∀(b:Nat) (x y:Int) (w:fr),w.cell? ⟨b,0,Y⟩=X (J U x)->w.cell? ⟨b,1,Y⟩=X (J U y)->gq prog 90 #[e7 (X ⟨b,0,Y⟩) 2 2] w λe w'=>e=e5 (J U (if x≠0 then x else y))/\w=w'):=AU;generalize hp:fg g j=p;generalize hq:fg i k=q;have I:=Z hp;have L:=Z hq;clear hp hq;go_enter func49,ntmps49;go_wp2;have M:(w.alloc (e8 #[J U g,J U i] 36)).heap.size=w.heap.size+1:=by simp
 obtain ⟨c,l⟩:=Qe ((w.alloc (e8 #[J U g,J U i] 36)).alloc (e8 #[J U j,J U k] 36));have m:c.heap[w.heap.size]? =X (e8 #[J U g,J U i] 36 (0,0)):=by rw [<- l,fl _ _ _ (by simp)];exact es w _
 have r:c.heap[w.heap.size+1]? =X (e8 #[J U j,J U k] 36 (0,0)):=by rw [<- l];have:=es (w.alloc (e8 #[J U g,J U i] 36)) (e8 #[J U j,J U k] 36);rwa [fz] at this
 have f:c.drew.cell? ⟨w.heap.size,0,Y⟩=X (J U g)/\c.drew.cell? ⟨w.heap.size,1,Y⟩=X (J U i)/\c.drew.cell? ⟨w.heap.size+1,0,Y⟩=X (J U j)/\c.drew.cell? ⟨w.heap.size+1,1,Y⟩=X (J U k):=
  ⟨(aa m 0).trans rfl,(aa m 1).trans rfl,(aa r 0).trans rfl,(aa r 1).trans rfl⟩
 have A:∀o,(c.alloc o).drew.cell? ⟨w.heap.size,0,Y⟩=X (J U g)/\(c.alloc o).drew.cell? ⟨w.heap.size,1,Y⟩=X (J U i)/\(c.alloc o).drew.cell? ⟨w.heap.size+1,0,Y⟩=X (J U j)/\(c.alloc o).drew.cell? ⟨w.heap.size+1,1,Y⟩=X (J U k):=λo=>
  ⟨(aM c o _ _ (ae m)).trans f.1,(aM c o _ _ (ae m)).trans f.2.1,(aM c o _ _ (ae r)).trans f.2.2.1,(aM c o _ _ (ae r)).trans f.2.2.2⟩
 have C:bo w c:=by rw [<- l];exact ((bo.refl w).alloc _).alloc _
 have D:c.heap.size=w.heap.size+2:=by rw [<- l];simp
 have G:=Z C;rw [l];clear m r l M C;refine wT (λW=>W.cell? ⟨w.heap.size,0,Y⟩=X (J U g)/\W.cell? ⟨w.heap.size,1,Y⟩=X (J U i)/\W.cell? ⟨w.heap.size+1,0,Y⟩=X (J U j)/\W.cell? ⟨w.heap.size+1,1,Y⟩=X (J U k)) 12 ?_;refine tk 0 ?_ rfl f ?_ ?_;rotate_left;intro w' h;go_simp;rfl;refine tk 1 ?_ rfl f ?_ ?_;rotate_left;rintro w' ⟨s,t,u,v⟩;go_simp;rfl;refine tk 2 ?_ rfl f ?_ ?_;rotate_left;intro w' h;go_simp;rfl;refine tk 3 ?_ rfl f ?_ ?_;rotate_left;rintro w' ⟨s,t,u,v⟩;go_simp;rfl;refine tk 5 ?_ rfl f ?_ ?_;rotate_left;intro w' h;go_simp;rfl;refine tk 6 ?_ rfl f ?_ ?_;rotate_left;rintro w' ⟨s,t,u,v⟩;go_simp;rfl;refine tk 7 ?_ rfl f ?_ ?_;rotate_left;intro w' h;go_simp;rfl;refine tk 8 ?_ rfl f ?_ ?_;rotate_left;rintro w' ⟨s,t,u,v⟩;go_simp;rfl;refine Dp 4 λK d=>?_;go_simp;go_at_call 91;refine (z _ _ _).mono ?_;rintro e E ⟨rfl,rfl⟩;rw [I.o];refine d _ _ (λ_=>f) ?_;clear d K;refine Dp 9 λK d=>?_;go_simp;go_at_call 91;refine (z _ _ _).mono ?_;rintro e E ⟨rfl,rfl⟩;rw [L.o];refine d _ _ (λ_=>f) ?_;clear d K;refine Dp 10 λK d=>?_;go_simp;refine d _ _ (λ_=>A _) ?_;clear d K;refine Dp 11 λK d=>?_;go_simp;go_at_call 90;refine (H _ _ _ _ (uL c _ _ _ _ D).1 (uL c _ _ _ _ D).2).mono ?_;rintro e E ⟨rfl,rfl⟩;refine d _ _ (λ_=>A _) ?_;clear d K;refine Dl 12 ?_;go_wp2;all_goals go_ret
 all_goals exact ⟨rfl,(G.alloc _).drew⟩
def pairV (a:PK):fy:= .agg #[J U a.1.1,J U a.1.2,J U a.2.1,J U a.2.2]
def ke (N:Nat) (a b c d e f g h:Int) (W:fr):Prop:=W.cell? ⟨N,0,Y⟩=X (J U a)/\W.cell? ⟨N,1,Y⟩=X (J U b)/\W.cell? ⟨N,2,Y⟩=X (J U c)/\W.cell? ⟨N,3,Y⟩=X (J U d)/\W.cell? ⟨N+1,0,Y⟩=X (J U e)/\W.cell? ⟨N+1,1,Y⟩=X (J U f)/\W.cell? ⟨N+1,2,Y⟩=X (J U g)/\W.cell? ⟨N+1,3,Y⟩=X (J U h)
theorem rm (W:fr) (x y:fy) (t:Nat):(W.alloc (e8 #[x,y] t)).cell? ⟨W.heap.size,0,Y⟩=X x/\(W.alloc (e8 #[x,y] t)).cell? ⟨W.heap.size,1,Y⟩=X y:=by
 have a:(W.alloc (e8 #[x,y] t)).heap[W.heap.size]? =X (e8 #[x,y] t (0,0)):=es W _;exact ⟨(aa a 0).trans rfl,(aa a 1).trans rfl⟩
theorem kM (a b:PK) (w:fr):gq prog 67 #[pairV a,pairV b] w λe w'=>e=e5 (J U (od a b))/\bo w w':=by
 obtain ⟨⟨f,g⟩,i,j⟩:=a;obtain ⟨⟨l,m⟩,r,s⟩:=b;unfold pairV od;dsimp only;have HC:Hid (∀(C D E G:Int) (W:fr),gq prog 49 #[.agg #[J U C,J U D], .agg #[J U E,J U G]] W λe w'=>e=e5 (J U (br (C,D) (E,G)))/\bo W w'):=λC D E G=>eV (C,D) (E,G);have HO:Hid (∀(b:Nat) (x y:Int) (w:fr),w.cell? ⟨b,0,Y⟩=X (J U x)->w.cell? ⟨b,1,Y⟩=X (J U y)->gq prog 90 #[e7 (X ⟨b,0,Y⟩) 2 2] w λe w'=>e=e5 (J U (if x≠0 then x else y))/\w=w'):=AU;generalize hp:br (f,g) (l,m)=p;generalize hq:br (i,j) (r,s)=q;have HP:=Z hp;have HQ:=Z hq;clear hp hq;go_enter func67,ntmps67;go_wp2;have ao:(w.alloc (e8 #[J U f,J U g,J U i,J U j] 134)).heap.size=w.heap.size+1:=by simp
 obtain ⟨c,t⟩:=Qe ((w.alloc (e8 #[J U f,J U g,J U i,J U j] 134)).alloc (e8 #[J U l,J U m,J U r,J U s] 134));have V:c.heap[w.heap.size]? =X (e8 #[J U f,J U g,J U i,J U j] 134 (0,0)):=by rw [<- t,fl _ _ _ (by simp)];exact es w _
 have hB:c.heap[w.heap.size+1]? =X (e8 #[J U l,J U m,J U r,J U s] 134 (0,0)):=by rw [<- t];have:=es (w.alloc (e8 #[J U f,J U g,J U i,J U j] 134)) (e8 #[J U l,J U m,J U r,J U s] 134);rwa [fz] at this
 have a5:bo w c:=by rw [<- t];exact ((bo.refl w).alloc _).alloc _
 have av:c.heap.size=w.heap.size+2:=by rw [<- t];simp
 have u:Hid (∀W,Bw c W->ke w.heap.size f g i j l m r s W):=λW hb=>by have z:=(hb.block _ (ae V)).trans V;have A:=(hb.block _ (ae hB)).trans hB;exact ⟨(aa z 0).trans rfl,(aa z 1).trans rfl,(aa z 2).trans rfl,(aa z 3).trans rfl,(aa A 0).trans rfl,(aa A 1).trans rfl,(aa A 2).trans rfl,(aa A 3).trans rfl⟩
 have k:ke w.heap.size f g i j l m r s c.drew:=u _ (eQ _ c).drew;have a9:=Z a5;rw [t];clear V hB t ao a5;refine wT (λW=>ke w.heap.size f g i j l m r s W) 12 ?_;refine tk 0 ?_ rfl k ?_ ?_;rotate_left;intro w' h;go_simp;rfl;refine tk 1 ?_ rfl k ?_ ?_;rotate_left;rintro w' ⟨H,I,L,M,N,O,R,T⟩;go_simp;rfl;refine tk 2 ?_ rfl k ?_ ?_;rotate_left;intro w' h;go_simp;rfl;refine tk 3 ?_ rfl k ?_ ?_;rotate_left;rintro w' ⟨H,I,L,M,N,O,R,T⟩;go_simp;rfl;refine tk 5 ?_ rfl k ?_ ?_;rotate_left;intro w' h;go_simp;rfl;refine tk 6 ?_ rfl k ?_ ?_;rotate_left;rintro w' ⟨H,I,L,M,N,O,R,T⟩;go_simp;rfl;refine tk 7 ?_ rfl k ?_ ?_;rotate_left;intro w' h;go_simp;rfl;refine tk 8 ?_ rfl k ?_ ?_;rotate_left;rintro w' ⟨H,I,L,M,N,O,R,T⟩;go_simp;rfl;refine Dp 4 λK d=>?_;go_simp;go_at_call 49;refine (HC _ _ _ _ _).mono ?_;rintro e w2 ⟨rfl,ad⟩;rw [HP.o];have a7:bo c w2:=(bo.refl c).drew.trans ad;have ac:Bw c w2:=a7.below;refine d _ _ (λ_=>u _ ac) ?_;clear d K;refine Dp 9 λK d=>?_;go_simp;go_at_call 49;refine (HC _ _ _ _ _).mono ?_;rintro e v ⟨rfl,al⟩;rw [HQ.o];have a8:bo c v:=a7.trans al;have a0:Bw c v:=a8.below;refine d _ _ (λ_=>u _ a0) ?_;clear d K;have au:=a0.size;refine Dp 10 λK d=>?_;go_simp;have a6:∀o,Bw c (v.alloc o):=λo=>a0.alloc au o;refine d _ _ (λ_=>u _ (a6 _)) ?_;clear d K;refine Dp 11 λK d=>?_;go_simp;go_at_call 90;refine (HO _ _ _ _ (rm v _ _ _).1 (rm v _ _ _).2).mono ?_;rintro e w4 ⟨rfl,rfl⟩;refine d _ _ (λ_=>u _ (a6 _)) ?_;clear d K;refine Dl 12 ?_;go_wp2;all_goals go_ret
 all_goals exact ⟨rfl,a9.trans (a8.alloc _)⟩
end
section
open Go.RowKit Go.Maps Go.Shelf
open Go.WideMaps (KeyLaw)
theorem lK:laidOutB prog=true:=by kernel_rfl
theorem BN:(36:g9)<prog.types.size:=of_decide_eq_true (by kernel_rfl)
theorem Be:(134:g9)<prog.types.size:=of_decide_eq_true (by kernel_rfl)
theorem Bd:(211:g9)<prog.types.size:=of_decide_eq_true (by kernel_rfl)
theorem Ca:prog.keyTypeAt 3 36=true:=by kernel_rfl
theorem gJ:KeyLaw prog 36:=deep_law_laid lK (m:=3) (by omega) BN Ca (by rw [underlying36])
theorem BR:prog.keyTypeAt 4 134=true:=by kernel_rfl
theorem tQ:KeyLaw prog 134:=deep_law_laid lK (m:=4) (by omega) Be BR (by rw [underlying134])
theorem BQ:prog.keyTypeAt 3 211=true:=by kernel_rfl
theorem Bu:KeyLaw prog 211:=deep_law_laid lK (m:=3) (by omega) Bd BQ (by rw [underlying211])
def i64B (n:Int):Prop:= -9223372036854775808<=n/\n<=9223372036854775807
def rkOk (a:RK):Prop:=i64B a.1/\i64B a.2
def pkOk (p:PK):Prop:=rkOk p.1/\rkOk p.2
theorem B6 {n:Int} (h:i64B n):(Lit.int U n).wf=true:=by
 obtain ⟨a,b⟩:=h;simp only [Lit.wf,IntKind.min,IntKind.max,IntKind.signed,IntKind.bits];simp;omega
theorem oO:prog.types.size=467:=by kernel_rfl
theorem ug:prog.cellsOf 3=1:=by kernel_rfl
theorem pX:prog.cellsOf 36=2:=by kernel_rfl
theorem sw:prog.cellsOf 134=4:=by kernel_rfl
theorem sv:prog.cellsOf 211=2:=by kernel_rfl
theorem Bx:prog.keyType 36=true:=by kernel_rfl
theorem Aj:prog.keyType 134=true:=by kernel_rfl
theorem Ai:prog.keyType 211=true:=by kernel_rfl
theorem uN (d:Nat) (n:Int) (h:i64B n):prog.keyLits (d+1) 3 [.int .i64 n]=X [.int .i64 n]:=by
 unfold gt;rw [underlying3];simp [B6 h]
theorem tJ (d:Nat) (a:RK) (h:rkOk a):prog.keyLits (d+2) 36 [.int .i64 a.1, .int .i64 a.2]=X [.int .i64 a.1, .int .i64 a.2]:=by
 unfold gt;rw [underlying36];simp [pX,ug,uN d _ h.1,uN d _ h.2]
theorem zW (d:Nat) (a:RK) (h:rkOk a):prog.keyLits (d+2) 211 [.int .i64 a.1, .int .i64 a.2]=X [.int .i64 a.1, .int .i64 a.2]:=by
 unfold gt;rw [underlying211];simp [sv,ug,uN d _ h.1,uN d _ h.2]
theorem zX (d:Nat) (p:PK) (h:pkOk p):prog.keyLits (d+3) 134 [.int .i64 p.1.1, .int .i64 p.1.2, .int .i64 p.2.1, .int .i64 p.2.2]=X [.int .i64 p.1.1, .int .i64 p.1.2, .int .i64 p.2.1, .int .i64 p.2.2]:=by
 unfold gt;rw [underlying134];simp [sw,pX,tJ d _ h.1,tJ d _ h.2]
def recB:et prog 36 RK where
 kv:=recK
 kl a:= .string (keyBytes [.int .i64 a.1, .int .i64 a.2])
 ok:=rkOk
 keyed:=Keyed.of_law gJ
 key a h:=by
  unfold keyOf
  rw [underlying36,oO]
  have:=tJ 466 a h
  simp only [Bx,recK,Value.cells] at this ⊢
  simp [Value.formed,underlying36,pX,this]
 inj a b h:=by
  unfold recK at h
  injection h with h
  simp at h
  exact hD h.1 h.2
def pairB:et prog 134 PK where
 kv:=pairV
 kl p:= .string (keyBytes [.int .i64 p.1.1, .int .i64 p.1.2, .int .i64 p.2.1, .int .i64 p.2.2])
 ok:=pkOk
 keyed:=Keyed.of_law tQ
 key a h:=by
  unfold keyOf
  rw [underlying134,oO]
  have:=zX 465 a h
  simp only [Aj,pairV,Value.cells] at this ⊢
  simp [Value.formed,underlying134,sw,this]
 inj a b h:=by
  unfold pairV at h
  injection h with h
  simp at h
  exact hD (hD h.1 h.2.1) (hD h.2.2.1 h.2.2.2)
def Bi:et prog 211 RK where
 kv:=recK
 kl a:= .string (keyBytes [.int .i64 a.1, .int .i64 a.2])
 ok:=rkOk
 keyed:=Keyed.of_law Bu
 key a h:=by
  unfold keyOf
  rw [underlying211,oO]
  have:=zW 466 a h
  simp only [Ai,recK,Value.cells] at this ⊢
  simp [Value.formed,underlying211,sv,this]
 inj a b h:=by
  unfold recK at h
  injection h with h
  simp at h
  exact hD h.1 h.2
end
section
open Go.RowKit Go.Maps Go.Shelf
def recI (n:Int):RK:=(1+n.emod 3,1+(n.tdiv 3).emod 4)
theorem cL {fn:Func} {p:Tmp} {c:g9} (h:fn.results= #[.cell p c]) (b:Array fy) (P:hH) (w:fr):
 (results fn b).run P w=((asAddr (b.getD p undef)).run P w).andThen λa d=>(loadVar c a).run P d:=by
 simp only [results,h];simp [Sem.run_bind,Result.andThen]
theorem tt (n:Int) (w:fr) (k: -9223372036854775808<=n/\n<=9223372036854775807):gq prog 20 #[J U n] w λe w'=>e=e5 (recK (recI n))/\Bw w w':=by
 unfold recI recK;dsimp only;have i:0<=n.emod 3/\n.emod 3<3:=⟨Int.emod_nonneg _ (by omega),Int.emod_lt_of_pos _ (by omega)⟩;have j:0<=(n.tdiv 3).emod 4/\(n.tdiv 3).emod 4<4:=⟨Int.emod_nonneg _ (by omega),Int.emod_lt_of_pos _ (by omega)⟩;have c:Hid (∀W,gq prog 24 #[J U n,J U 3] W λe w'=>e=e5 (J U (n.emod 3))/\W=w'):=λW=>jM n 3 W (by omega) (by omega);have d:Hid (∀W,gq prog 24 #[J U (n.tdiv 3),J U 4] W λe w'=>e=e5 (J U ((n.tdiv 3).emod 4))/\W=w'):=λW=>jM _ 4 W (by omega) (by omega);have l: -4611686018427387904<=n.tdiv 3/\n.tdiv 3<=4611686018427387904:=(by
  rcases Int.le_total 0 n with h|h
  · rw [hv h];omega
  · have f:n.tdiv 3= -((-n).tdiv 3):=by rw [Int.neg_tdiv];omega
    rw [f,hv (by omega)];omega)
 generalize n.emod 3=a at *;generalize (n.tdiv 3).emod 4=b at *;go_enter func20,ntmps20
 go_wp2_with (first
  |(go_at_call 24;((with_reducible refine gb (c.o _) ?_);rintro e g ⟨rfl,rfl⟩))
  |(go_at_call 24;((with_reducible refine gb (d.o _) ?_);rintro e g ⟨rfl,rfl⟩)))
 refine bodyPost_ret (v:= .agg #[J U (1+a),J U (1+b)]) (by rw [cL rfl];go_simp) rfl ?_;exact ⟨rfl,(eQ _ w).alloc (er _) _⟩
def rkCells (a:RK):List fy:=[J U a.1,J U a.2]
def eu (lo a:Nat) (w:fr) (v:fy) (l:List RK):Prop:=aF lo a w v l.length (l.flatMap rkCells)
theorem eu.one {lo g:Nat} {w:fr} {v:fy} {l:List RK} (h:eu lo g w v l) (i:Nat) (e:i<l.length):
 ∃b c d,v=e7 (X ⟨b,c,Y⟩) l.length d/\lo<=b/\b<g/\w.cell? ⟨b,c+i * 2,Y⟩=X (J U l[i].1)/\w.cell? ⟨b,c+i * 2+1,Y⟩=X (J U l[i].2):=by
 obtain ⟨a,d,r,h⟩:=h;have q:l.flatMap rkCells≠[]:=by
  cases l with
  |nil=>simp at e
  |cons s l=>simp [rkCells]
 obtain ⟨b,c,p,m,o,f⟩:=h q;subst p;have j:=dl rkCells 2 (λ_=>rfl) l i e 0 (by omega);have k:=dl rkCells 2 (λ_=>rfl) l i e 1 (by omega);exact ⟨b,c,d,r,m,o,f _ _ j,by rw [Nat.add_assoc];exact f _ _ k⟩
theorem eu.kept {lo a:Nat} {w w':fr} {v:fy} {l:List RK} (h:eu lo a w v l) (k:jB lo a w w'):eu lo a w' v l:=aF.kept h k
theorem cB (u v:fy) (l m:List RK) (w:fr) (s:eu 0 w.heap.size w u l) (t:eu 0 w.heap.size w v m) (hl:l.length<=1000000) (hm:m.length<=1000000):
 gq prog 17 #[u,v] w λe w'=>e=e5 (e6 (decide (l=m)))/\Bw w w':=by
 have E:=Z s;have G:=Z t;obtain ⟨a,c,rfl,_⟩:=s;obtain ⟨O,T,rfl,_⟩:=t;by_cases hlm:l.length=m.length
 · have M:((l.length:Int)!=(m.length:Int))=false:=by simp;omega
   have a5:m.length<=l.length:=by omega
   have a4:l.length<=m.length:=by omega
   have N:=Z hlm;clear hlm;go_enter func17,ntmps17;go_wp2_with fail
   go_loopw [5] (λi wr=>∃k:Nat,k<=l.length/\i=J U k/\Hid (l.take k=m.take k)/\Bw w wr) (λi _=>l.length - (intOf i).toNat)
   case atStart=>exact ⟨0,g7 _,rfl,rfl,eQ _ _⟩
   case round=>
    obtain ⟨k,hk,rfl,j,d⟩:=hrel;by_cases hlt:k<l.length
    · have r:k<m.length:=by omega
      obtain ⟨b,a6,V,f,_,a0,H,c1⟩:=(eu.kept E.o (aP d (er _))).one k hlt;cases f;obtain ⟨R,a7,W,f,_,a1,I,L⟩:=(eu.kept G.o (aP d (er _))).one k r;cases f;have a3:(k:Int)<(m.length:Int):=by omega
      have o:Hid (l.take (k+1)=l.take k++[l[k]]/\m.take (k+1)=m.take k++[m[k]]):=⟨fx hlt,fx r⟩;have D:Hid (l=m->l[k]=m[k]):=λh=>by subst h;rfl
      generalize l[k]=p at *;generalize m[k]=q at *;obtain ⟨x,y⟩:=p;obtain ⟨z,A⟩:=q;dsimp only at H c1 I L;have a2:b<wr.heap.size:=by have:=d.size;omega
      by_cases hpq:x=z/\y=A
      · obtain ⟨rfl,rfl⟩:=hpq;go_wp2_with fail
        go_region;go_wp2_with fail
        go_roundw
        case rel=>exact ⟨k+1,by omega,by go_num,by unfold Hid;rw [o.o.1,o.o.2,j.o],d.drew⟩
        case measure=>simp [intOf];omega
      · have g:Hid (l≠m):=λh=>hpq (Prod.mk.inj (D h));by_cases h1:x=z
        · have h2:¬y=A:=λh=>hpq ⟨h1,h⟩;subst h1;clear hpq;go_wp2_with fail
          go_region;go_wp2_with fail
          go_ret;exact ⟨ap (by symm;exact decide_eq_false g.o),d.drew⟩
        · clear hpq;go_wp2_with fail
          go_region;go_wp2_with fail
          go_ret;exact ⟨ap (by symm;exact decide_eq_false g.o),d.drew⟩
    · have C:Hid (l=m):=by have:=j.o;rw [gd (by omega),gd (by omega)] at this;exact this
      go_wp2_with fail
      go_ret;exact ⟨ap (by symm;exact decide_eq_true C.o),d⟩
 · have M:((l.length:Int)!=(m.length:Int))=true:=by simp;omega
   go_enter func17,ntmps17;go_wp2_with fail
   go_ret;exact ⟨ap (by symm;exact decide_eq_false (λh=>hlm (by rw [h]))),eQ _ _⟩
theorem BA:(prog.info? 123).map (λi=>(i.zero,i.size,i.bytes))=X (X (.agg #[.string ⟨#[]⟩, .string ⟨#[]⟩, .string ⟨#[]⟩,e7 Y 0 0]),4,72):=by kernel_rfl
theorem Am:(prog.info? 120).map (λi=>(i.zero,i.size,i.bytes))=X (X (.agg #[J e9 0, .string ⟨#[]⟩]),2,24):=by kernel_rfl
theorem i36:(prog.info? 36).map (λi=>(i.zero,i.size,i.bytes))=X (X (.agg #[J U 0,J U 0]),2,16):=by kernel_rfl
theorem wQ (v:fy) (n:Nat) (f:List fy) (w:fr) (h:aF 0 w.heap.size w v n f) (g:f.length=n * 4) (i:∀u∈f,u.oneCell'=true) (V:n<=1000000):
 gq prog 106 #[v] w λe w'=>∃d,e=e5 d/\w'.ownsRow w.heap.size 123 4 d n f/\Bw w w':=by
 have z:=Z h;obtain ⟨a,c,rfl,h⟩:=h;have qn:∀(w:fr) (a:Option Addr) (n c:Nat),(binOp .eql 60 (e7 a n c) (e7 Y 0 0)).run prog w= .ok (e6 a.isNone) w:=λw a n c=>gP w 60 _ a n c 0 0 underlying60;cases a with
 |none=>
  have H:f=[]:=by
   rcases f with _|⟨x,f⟩
   · rfl
   · obtain ⟨b,W,C,_⟩:=h (by simp);cases C
  subst H;have G:n=0:=by simp at g;omega
  subst G;clear h i g;go_enter func106,ntmps106;go_wp2_with fail
  go_ret;exact ⟨_,rfl,g8 _ _ _ _,eQ _ _⟩
 |some a=>
  clear h;obtain ⟨N,D,I,L,M⟩:=info_parts BA;have s:=Z g;have q:=Z i;have A:Hid (∀o,aF 0 (w.alloc o).heap.size (w.alloc o) (e7 (X a) n c) n f):=λo=>(z.o.kept (λk _ E=>fl w o k E)).mono (er _) (by simp);have y:Hid ((w.alloc (e8 #[] 123)).ownsRow w.heap.size 123 4 (e7 (X ⟨w.heap.size,0,Y⟩) 0 0) 0 []):=cX (es w _) (er _);clear g i;go_enter func106,ntmps106;go_wp2_with (at_builtin;refine aD _ rfl _ _ 60 rfl w.heap.size 123 N (.agg #[.string ⟨#[]⟩, .string ⟨#[]⟩, .string ⟨#[]⟩,e7 Y 0 0]) 4 72 underlying60 D I L M rfl (by decide) w.heap.size 0 0 [] rfl y.o _ _ n f rfl (A.o _) s.o q.o (by unfold maxLen;omega) (by omega) (by simp) ?_;intro O R w1 p l T;have t:=Z p;have r:=Z l;clear p l)
  go_ret;refine ⟨_,rfl,?_,?_⟩
  · have:=t.o;rw [hd,hi] at this;exact this
  · exact ((eQ _ w).alloc (er _) _).grown r.o (by simp) (λj m=>by injection m with m;omega)
theorem wP (v:fy) (n:Nat) (f:List fy) (w:fr) (h:aF 0 w.heap.size w v n f) (g:f.length=n * 2) (i:∀u∈f,u.oneCell'=true) (V:n<=1000000):
 gq prog 107 #[v] w λe w'=>∃d,e=e5 d/\w'.ownsRow w.heap.size 120 2 d n f/\Bw w w':=by
 have z:=Z h;obtain ⟨a,c,rfl,h⟩:=h;have qn:∀(w:fr) (a:Option Addr) (n c:Nat),(binOp .eql 121 (e7 a n c) (e7 Y 0 0)).run prog w= .ok (e6 a.isNone) w:=λw a n c=>gP w 121 _ a n c 0 0 underlying121;cases a with
 |none=>
  have H:f=[]:=by
   rcases f with _|⟨x,f⟩
   · rfl
   · obtain ⟨b,W,C,_⟩:=h (by simp);cases C
  subst H;have G:n=0:=by simp at g;omega
  subst G;clear h i g;go_enter func107,ntmps107;go_wp2_with fail
  go_ret;exact ⟨_,rfl,g8 _ _ _ _,eQ _ _⟩
 |some a=>
  clear h;obtain ⟨N,D,I,L,M⟩:=info_parts Am;have s:=Z g;have q:=Z i;have A:Hid (∀o,aF 0 (w.alloc o).heap.size (w.alloc o) (e7 (X a) n c) n f):=λo=>(z.o.kept (λk _ E=>fl w o k E)).mono (er _) (by simp);have y:Hid ((w.alloc (e8 #[] 120)).ownsRow w.heap.size 120 2 (e7 (X ⟨w.heap.size,0,Y⟩) 0 0) 0 []):=cX (es w _) (er _);clear g i;go_enter func107,ntmps107;go_wp2_with (at_builtin;refine aD _ rfl _ _ 121 rfl w.heap.size 120 N (.agg #[J e9 0, .string ⟨#[]⟩]) 2 24 underlying121 D I L M rfl (by decide) w.heap.size 0 0 [] rfl y.o _ _ n f rfl (A.o _) s.o q.o (by unfold maxLen;omega) (by omega) (by simp) ?_;intro O R w1 p l T;have t:=Z p;have r:=Z l;clear p l)
  go_ret;refine ⟨_,rfl,?_,?_⟩
  · have:=t.o;rw [hd,hi] at this;exact this
  · exact ((eQ _ w).alloc (er _) _).grown r.o (by simp) (λj m=>by injection m with m;omega)
theorem yW (v:fy) (n:Nat) (f:List fy) (w:fr) (h:aF 0 w.heap.size w v n f) (g:f.length=n * 2) (i:∀u∈f,u.oneCell'=true) (V:n<=1000000):
 gq prog 52 #[v] w λe w'=>∃d,e=e5 d/\w'.ownsRow w.heap.size 36 2 d n f/\Bw w w':=by
 have z:=Z h;obtain ⟨a,c,rfl,h⟩:=h;have qn:∀(w:fr) (a:Option Addr) (n c:Nat),(binOp .eql 52 (e7 a n c) (e7 Y 0 0)).run prog w= .ok (e6 a.isNone) w:=λw a n c=>gP w 52 _ a n c 0 0 underlying52;cases a with
 |none=>
  have H:f=[]:=by
   rcases f with _|⟨x,f⟩
   · rfl
   · obtain ⟨b,W,C,_⟩:=h (by simp);cases C
  subst H;have G:n=0:=by simp at g;omega
  subst G;clear h i g;go_enter func52,ntmps52;go_wp2_with fail
  go_ret;exact ⟨_,rfl,g8 _ _ _ _,eQ _ _⟩
 |some a=>
  clear h;obtain ⟨N,D,I,L,M⟩:=info_parts i36;have s:=Z g;have q:=Z i;have A:Hid (∀o,aF 0 (w.alloc o).heap.size (w.alloc o) (e7 (X a) n c) n f):=λo=>(z.o.kept (λk _ E=>fl w o k E)).mono (er _) (by simp);have y:Hid ((w.alloc (e8 #[] 36)).ownsRow w.heap.size 36 2 (e7 (X ⟨w.heap.size,0,Y⟩) 0 0) 0 []):=cX (es w _) (er _);clear g i;go_enter func52,ntmps52;go_wp2_with (at_builtin;refine aD _ rfl _ _ 52 rfl w.heap.size 36 N (.agg #[J U 0,J U 0]) 2 16 underlying52 D I L M rfl (by decide) w.heap.size 0 0 [] rfl y.o _ _ n f rfl (A.o _) s.o q.o (by unfold maxLen;omega) (by omega) (by simp) ?_;intro O R w1 p l T;have t:=Z p;have r:=Z l;clear p l)
  go_ret;refine ⟨_,rfl,?_,?_⟩
  · have:=t.o;rw [hd,hi] at this;exact this
  · exact ((eQ _ w).alloc (er _) _).grown r.o (by simp) (λj m=>by injection m with m;omega)
theorem wm (ps:List (af×fy)):∀(m i:Nat) (u:fy) (q:af×fy) (a:m<ps.length),i<4->(fieldCells ps[m]).set i u=fieldCells q->(ps.flatMap fieldCells).set (m * 4+i) u=(ps.set m q).flatMap fieldCells:=by
 induction ps with
 |nil=>intro m i u q a;simp at a
 |cons p ps ih=>
  intro m i u q a d b;cases m with
  |zero=> simp only [List.getElem_cons_zero] at b;rw [gs,List.set_append_left _ _ (by simp [fieldCells];omega),Nat.zero_mul,hd,b];rfl
  |succ m=>
   simp only [List.getElem_cons_succ] at b;have c:(fieldCells p).length=4:=by simp [fieldCells]
   rw [gs,List.set_append_right _ _ (by rw [c];omega),c,show (m+1) * 4+i - 4=m * 4+i from by omega,ih m i u q (by simpa using a) d b];rfl
theorem wt (ps:List (af×fy)):∀(m i:Nat) (a:m<ps.length),i<4->(ps.flatMap fieldCells)[m * 4+i]? =(fieldCells ps[m])[i]? :=λm i a b=>by
 rw [dl fieldCells 4 (λ_=>rfl) ps m a i b]
theorem pQ (ps:List (af×fy)):∀u∈ps.flatMap fieldCells,(∀p∈ps,p.2.oneCell'=true)->u.oneCell'=true:=by
 intro u a c;obtain ⟨p,b,a⟩:=List.mem_flatMap.1 a;simp only [fieldCells,List.mem_cons,List.not_mem_nil,or_false] at a;rcases a with rfl|rfl|rfl|rfl
 · rfl
 · rfl
 · rfl
 · exact c p b
theorem sV (b:List cw):∀u∈b.flatMap subCells,u.oneCell'=true:=by
 intro u a;obtain ⟨p,c,a⟩:=List.mem_flatMap.1 a;simp only [subCells,List.mem_cons,List.not_mem_nil,or_false] at a;rcases a with rfl|rfl<;>rfl
theorem wn (ps:List (af×fy)):(ps.flatMap fieldCells).length=ps.length * 4:=by
 induction ps with
 |nil=>rfl
 |cons p ps ih=>rw [gs,hL,ih];simp [fieldCells];omega
theorem wo (a:List cw):(a.flatMap subCells).length=a.length * 2:=by
 induction a with
 |nil=>rfl
 |cons p ps ih=>rw [gs,hL,ih];simp [subCells];omega
structure gu (W0 L wc:Nat) (d:fy) (fs:List af) (k:Nat) (wr:fr):Prop where
 ex:∃ps:List (af×fy),ps.map (·.1)=fs/\wr.ownsRow L 123 4 d fs.length (ps.flatMap fieldCells)/\
  (∀j (hj:j<ps.length),j<k->aB wc wr.heap.size wr ps[j].2 ps[j].1.subs)/\(∀j (hj:j<ps.length),k<=j->aB 0 W0 wr ps[j].2 ps[j].1.subs)
 blk:∀g,d.ownBlock=some g->L<=g/\g<wc
 big:W0<=L/\L<=wc/\wc<=wr.heap.size
theorem gu.start {w wc:fr} {L:Nat} {d:fy} {ps:List (af×fy)} {a:List af} (k:ps.map (·.1)=a) (l:∀p∈ps,aB 0 w.heap.size w p.2 p.1.subs) (e:w.heap.size<=L) (f:L<=wc.heap.size) (h:Bw w wc) (c:wc.ownsRow L 123 4 d a.length (ps.flatMap fieldCells)):
 gu w.heap.size L wc.heap.size d a 0 wc:=by
 refine ⟨⟨ps,k,c,λj b m=>by omega,λj b _=>(l _ (gy b)).kept (aP h (er _))⟩,λg i=>c.lt g i,e,f,er _⟩
theorem gu.far {a L wc k:Nat} {d:fy} {l:List af} {wr w':fr} (h:gu a L wc d l k wr) (f:∀q,q<a∨L<=q->q<wr.heap.size->w'.heap[q]? =wr.heap[q]?) (s:wr.heap.size<=w'.heap.size):gu a L wc d l k w':=by
 obtain ⟨ps,o,b,p,r⟩:=h.ex;have m:=h.big;refine ⟨⟨ps,o,ag b (λq g=>f q (.inr (b.lt q g).1) (b.lt q g).2),λj c e=>((p j c e).kept (λq g i=>f q (.inr (by omega)) i)).mono (er _) s,λj c e=>(r j c e).kept (λq _ i=>f q (.inl i) (by omega))⟩,h.blk,m.1,m.2.1,by omega⟩
theorem gu.form {c L wc k:Nat} {d:fy} {b:List af} {wr:fr} (h:gu c L wc d b k wr) (i:k<b.length):∃g a,d=e7 (X ⟨g,0,Y⟩) b.length a:=by
 obtain ⟨l,j,f,_⟩:=h.ex;obtain ⟨g,a,e,_⟩:=World.ownsRow.form f (by omega);exact ⟨g,a,e⟩
theorem gu.cell {b L wc k:Nat} {g j:Nat} {a:List af} {wr:fr} (h:gu b L wc (e7 (X ⟨g,0,Y⟩) a.length j) a k wr) (p:k<a.length):
 ∃c,wr.cell? ⟨g,k * 4+3,Y⟩=X c/\aB 0 b wr c a[k].subs/\∀i,wr.frozen? ⟨g,i,Y⟩=false:=by
 obtain ⟨ps,d,e,o,m⟩:=h.ex;have q:ps.length=a.length:=by rw [<- d];simp
 have f:k<ps.length:=by omega
 have l:ps[k].1=a[k]:=by simp [<- d]
 refine ⟨ps[k].2,?_,by rw [<- l];exact m k f (er _),λi=>e.frozenAt i⟩;rw [e.cellAt (k * 4+3) (by omega),wt ps k 3 f (by omega)];rfl
theorem gu.put {o L wc k:Nat} {d a:fy} {b:List af} {wr c:fr} (h:gu o L wc d b k wr) (s:k<b.length) (i:Bw wr c) (N:c.ownsRow wr.heap.size 120 2 a b[k].subs.length (b[k].subs.flatMap subCells)) {g v:Nat} (r:d=e7 (X ⟨g,0,Y⟩) b.length v):
 gu o L wc d b (k+1) (c.setCell ⟨g,k * 4+3,Y⟩ a):=by
 obtain ⟨ps,m,p,z,A⟩:=h.ex;have t:k<ps.length:=by rw [<- m] at s;simpa using s
 obtain ⟨T,R⟩:=h.blk g (by rw [r];rfl);have O:=i.size;obtain ⟨E,G,H⟩:=h.big;have w:ps[k].1=b[k]:=by simp [<- m]
 have y:c.ownsRow L 123 4 d b.length (ps.flatMap fieldCells):=ag p (λq l=>i.block q (p.lt q l).2);have I:aB wc (c.setCell ⟨g,k * 4+3,Y⟩ a).heap.size (c.setCell ⟨g,k * 4+3,Y⟩ a) a b[k].subs:=by have C:aB wr.heap.size c.heap.size c a b[k].subs:=aX N;have D:=C.kept (w':=c.setCell ⟨g,k * 4+3,Y⟩ a) (λq l _=>fp _ _ _ _ (by simp;omega));exact D.mono H (by rw [gp];exact er _)
 refine ⟨⟨ps.set k (ps[k].1,a),?_,?_,λj f M=>?_,λj f M=>?_⟩,h.blk,E,G,by rw [gp];omega⟩
 · rw [List.map_set, <- m];have:ps[k].1=(List.map (λx:af×fy=>x.1) ps)[k]'(by simpa using t):=by simp
   rw [this,List.set_getElem_self]
 · subst r;have:=(y.stored (k * 4+3) a).1;rw [wm ps k 3 a (ps[k].1,a) t (by omega) (by simp [fieldCells])] at this;exact this
 · rw [List.length_set] at f;simp only [List.getElem_set];split
   · rename_i e;rw [w];exact I
   · rename_i e;refine ((z j f (by omega)).kept (λq l u=>?_)).mono (er _) (by rw [gp];exact O);rw [fp _ _ _ _ (by simp;omega)];exact i.block q u
 · rw [List.length_set] at f;simp only [List.getElem_set];rw [if_neg (by omega)];refine (A j f (by omega)).kept (λq l u=>?_);rw [fp _ _ _ _ (by simp;omega)];exact i.block q (by omega)
theorem gu.done {c L wc k:Nat} {d:fy} {a:List af} {wr:fr} (h:gu c L wc d a k wr) (m:a.length<=k):ai L wr.heap.size wr d a:=by
 obtain ⟨ps,b,e,f,_⟩:=h.ex;have o:ps.length=a.length:=by rw [<- b];simp
 have g:=h.big;refine ⟨ps,b,λp l=>?_,aX e⟩;obtain ⟨j,i,rfl⟩:=List.getElem_of_mem l;exact (f j i (by omega)).mono g.2.1 (er _)
theorem zu {lo b:Nat} {w:fr} {v:fy} {d:List cw} (h:aB lo b w v d):v.oneCell'=true:=by
 obtain ⟨a,c,rfl,_⟩:=h;rfl
def sH (B:Nat) (a b:UInt8) (d:fy) (w:fr):Prop:=w.heap[B]? =X (e8 #[J e9 a.toNat,J e9 b.toNat,d] 62 (0,0))/\w.heap[B+1]? =X (e8 #[J e9 0,J e9 0,e7 Y 0 0] 62 (0,0))
theorem sH.far {B:Nat} {a b:UInt8} {d:fy} {w w':fr} (h:sH B a b d w) (c:w'.heap[B]? =w.heap[B]?) (e:w'.heap[B+1]? =w.heap[B+1]?):sH B a b d w':=⟨c.trans h.1,e.trans h.2⟩
theorem x9 (v:fy) (r:az) (w:fr) (h:dH 0 w.heap.size w v r) (hn:r.fields.length<=1000000) (hs:∀f∈r.fields,f.subs.length<=1000000):
 gq prog 60 #[v] w λe w'=>∃v',e=e5 v'/\dH w.heap.size w'.heap.size w' v' r/\Bw w w':=by
 obtain ⟨m,o,a⟩:=r;obtain ⟨x,rfl,hx⟩:=h;obtain ⟨ps,T,a5,a4⟩:=hx;dsimp only at T hn hs a4;unfold recV;dsimp only;obtain ⟨c,N⟩:=Qe ((w.alloc (e8 #[J e9 m.toNat,J e9 o.toNat,x] 62)).alloc (e8 #[J e9 0,J e9 0,e7 Y 0 0] 62));have R:Bw w c:=by rw [<- N];exact ((eQ _ w).alloc (er _) _).alloc (by simp) _
 have av:c.heap.size=w.heap.size+2:=by rw [<- N];simp
 have hA:sH w.heap.size m o x c:=by
  refine ⟨?_,?_⟩
  · rw [<- N,fl _ _ _ (by simp)];exact es w _
  · rw [<- N];have:=es (w.alloc (e8 #[J e9 m.toNat,J e9 o.toNat,x] 62)) (e8 #[J e9 0,J e9 0,e7 Y 0 0] 62);rwa [fz] at this
 have au:aF 0 c.heap.size c x a.length (ps.flatMap fieldCells):=(a4.kept (aP R (er _))).mono (er _) R.size;have al:ps.length=a.length:=by rw [<- T];simp
 have HC:=Z (wQ x a.length (ps.flatMap fieldCells) c au (by rw [wn,al]) (λu hu=>pQ ps u hu λp hp=>zu (a5 p hp)) (by omega));have b0:=Z T;have b2:=Z a5;have E:=Z R;have a2:c.cell? ⟨w.heap.size,2,Y⟩=X x:=by rw [aa hA.1];rfl
 have HA:=Z hA;have b1:=Z hs;have A:=Z av;clear au a4 a5 R al hA T hs av;go_enter func60,ntmps60;go_wp2_with (go_at_call 106;((with_reducible refine gb HC.o ?_);rintro e wc ⟨d,rfl,hr,O⟩;obtain ⟨l,b,rfl⟩:=aI hr;have I:sH w.heap.size m o x wc:=HA.o.far (O.block _ (by rw [A.o];omega)) (O.block _ (by rw [A.o];omega));have c2:wc.cell? ⟨w.heap.size,2,Y⟩=X x:=(aa I.1 2).trans rfl;have f2:=ab I.1 2;have HR:=Z hr;have W:=Z O;have a6:=Z I;clear hr O I))
 have hO:=gu.start b0.o b2.o (L:=c.heap.size) E.size W.size (btr E.o W.o E.size) HR.o
 have a8:gu w.heap.size c.heap.size wc.heap.size (e7 l a.length b) a 0 (wc.setCell ⟨w.heap.size,2,Y⟩ (e7 l a.length b)):=
  hO.far (λq hq _=>fp _ _ _ _ (by have:=A.o;simp;omega)) (by rw [gp];exact er _)
 have a9:sH w.heap.size m o (e7 l a.length b) (wc.setCell ⟨w.heap.size,2,Y⟩ (e7 l a.length b)):=by
  refine ⟨?_,?_⟩
  · rw [an a6.o.1];rfl
  · rw [fp _ _ _ _ (by simp)];exact a6.o.2
 have a7:Bw w (wc.setCell ⟨w.heap.size,2,Y⟩ (e7 l a.length b)):=(btr E.o W.o E.o.size).setCell (by simp) _;have aT:=Z a8;have b3:=Z a9;have ax:=Z a7;clear hO a8 a9 a7;go_loopw [3,11] (λ_a i wr=>∃k:Nat,k<=a.length/\i=J U k/\Hid (gu w.heap.size c.heap.size wc.heap.size (e7 l a.length b) a k wr)/\Hid (sH w.heap.size m o (e7 l a.length b) wr)/\Hid (Bw w wr)) (λ_ i _=>a.length - (intOf i).toNat)
 case atStart=>exact ⟨0,g7 _,rfl,aT,b3,ax⟩
 case round=>
  obtain ⟨k,hk,rfl,z,j,D⟩:=hrel;have e2:wr.cell? ⟨w.heap.size,2,Y⟩=X (e7 l a.length b):=by rw [aa j.o.1];rfl
  by_cases hlt:k<a.length
  · obtain ⟨g,b6,he⟩:=z.form hlt;cases he;obtain ⟨G,ac,ao,ad⟩:=z.cell hlt;have b5:w.heap.size+2<=g/\g<wr.heap.size:=by have:=z.o.blk g rfl;have:=z.o.big;have:=A.o;omega
    have aC:=Z (wP G a[k].subs.length (a[k].subs.flatMap subCells) wr.drew ((show aB 0 w.heap.size wr.drew G a[k].subs from ao).mono (er _) D.size) (wo _) (sV _) (b1 _ (gy hlt)));have M:wr.drew.cell? ⟨w.heap.size,2,Y⟩=X (e7 (X ⟨g,0,Y⟩) a.length b)/\wr.drew.cell? ⟨g,k * 4+3,Y⟩=X G:=⟨e2,ac⟩;have b7:(k:Int)<(a.length:Int):=by omega
    have aS:=Z (ad (k * 4+3));clear ao ad ac e2;go_wp2_with fail
    refine wT (λw'=>w'.cell? ⟨w.heap.size,2,Y⟩=X (e7 (X ⟨g,0,Y⟩) a.length b)/\w'.cell? ⟨g,k * 4+3,Y⟩=X G) 12 ?_;refine Qb [0,2,3,5,1,4,6,7,8] M (λw' h=>h) ?_;refine Dp 9 λK s=>?_;go_simp;go_at_call 107;refine aC.mono ?_;rintro e y ⟨dd,rfl,a3,t⟩;obtain ⟨a0,a1,rfl⟩:=aI a3;have C:Bw wr y:=⟨t.os,t.tape,t.output,t.size,t.block⟩;have H:y.cell? ⟨w.heap.size,2,Y⟩=X (e7 (X ⟨g,0,Y⟩) a.length b)/\y.cell? ⟨g,k * 4+3,Y⟩=X G:=⟨ep t _ _ M.1,ep t _ _ M.2⟩;refine s _ _ (λ_=>H) ?_;clear s K;have c9:=H.2;have f9:y.frozen? ⟨g,k * 4+3,Y⟩=false:=by rw [(ar C).2 _ _ b5.2];exact aS.o
    refine Ds 10 H ?_;refine Qb [11] H (λw' h=>h) ?_
    refine Dl 12 ?_;have HN:Hid (gu w.heap.size c.heap.size wc.heap.size (e7 (X ⟨g,0,Y⟩) a.length b) a (k+1) (y.setCell ⟨g,k * 4+3,Y⟩ (.slice a0 a[k].subs.length a1))):=z.put hlt C a3 rfl;have b4:Hid (sH w.heap.size m o (e7 (X ⟨g,0,Y⟩) a.length b) (y.setCell ⟨g,k * 4+3,Y⟩ (.slice a0 a[k].subs.length a1))):=by
     have b8:=D.size;refine j.far ?_ ?_
     · rw [fp _ _ _ _ (by simp;omega)];exact C.block _ (by omega)
     · rw [fp _ _ _ _ (by simp;omega)];exact C.block _ (by omega)
    have ay:Hid (Bw w (y.setCell ⟨g,k * 4+3,Y⟩ (.slice a0 a[k].subs.length a1))):=(btr D.o C D.o.size).setCell (by simp;omega) _;clear M H c9 f9 a3 t C;go_wp2_with fail
    go_roundw
    case rel=>exact ⟨k+1,by omega,by go_num,HN,b4,ay⟩
    case measure=>simp [intOf];omega
  · have c0:wr.cell? ⟨w.heap.size,0,Y⟩=X (J e9 m.toNat):=by rw [aa j.o.1];rfl
    have c1:wr.cell? ⟨w.heap.size,1,Y⟩=X (J e9 o.toNat):=by rw [aa j.o.1];rfl
    have d0:wr.cell? ⟨w.heap.size+1,0,Y⟩=X (J e9 0):=by rw [aa j.o.2];rfl
    have d1:wr.cell? ⟨w.heap.size+1,1,Y⟩=X (J e9 0):=by rw [aa j.o.2];rfl
    have d2:wr.cell? ⟨w.heap.size+1,2,Y⟩=X (e7 Y 0 0):=by rw [aa j.o.2];rfl
    have g0:=ab j.2 0;have g1:=ab j.2 1;have g2:=ab j.2 2;go_wp2_with fail
    refine bodyPost_ret (v:= .agg #[J e9 m.toNat,J e9 o.toNat,e7 l a.length b]) (by rw [cL rfl];go_simp) rfl ?_;refine ⟨_,rfl,⟨_,rfl,?_⟩,((D.o.setCell (by simp) _).setCell (by simp) _).setCell (by simp) _⟩;refine ((z.o.done (by omega)).kept (λq hq _=>?_)).mono (by have:=A.o;omega) (by simp);have hz:=A.o;rw [fp _ _ _ _ (by simp;omega),fp _ _ _ _ (by simp;omega),fp _ _ _ _ (by simp;omega)]
theorem wC (u v:fy) (l m:List cw) (w:fr) (y:aB 0 w.heap.size w u l) (z:aB 0 w.heap.size w v m) (hl:l.length<=1000000) (hm:m.length<=1000000):
 gq prog 105 #[u,v] w λe w'=>e=e5 (e6 (decide (l=m)))/\Bw w w':=by
 have G:=Z y;have H:=Z z;obtain ⟨a,c,rfl,_⟩:=y;obtain ⟨R,V,rfl,_⟩:=z;by_cases hlm:l.length=m.length
 · have N:((l.length:Int)!=(m.length:Int))=false:=by simp;omega
   have a7:m.length<=l.length:=by omega
   have a6:l.length<=m.length:=by omega
   have O:=Z hlm;clear hlm;go_enter func105,ntmps105;go_wp2_with fail
   go_loopw [5,13] (λ_a i wr=>∃k:Nat,k<=l.length/\i=J U k/\Hid (l.take k=m.take k)/\Bw w wr) (λ_ i _=>l.length - (intOf i).toNat)
   case atStart=>exact ⟨0,g7 _,rfl,rfl,eQ _ _⟩
   case round=>
    obtain ⟨k,hk,rfl,r,d⟩:=hrel;by_cases hlt:k<l.length
    · have x:k<m.length:=by omega
      obtain ⟨b,a8,W,f,_,a2,I,c1⟩:=(aB.kept G.o (aP d (er _))).sub k hlt;cases f;obtain ⟨T,a9,a0,f,_,a3,L,M⟩:=(aB.kept H.o (aP d (er _))).sub k x;cases f;have a5:(k:Int)<(m.length:Int):=by omega
      have s:Hid (l.take (k+1)=l.take k++[l[k]]/\m.take (k+1)=m.take k++[m[k]]):=⟨fx hlt,fx x⟩;have E:Hid (l=m->l[k]=m[k]):=λh=>by subst h;rfl
      generalize l[k]=p at *;generalize m[k]=q at *;obtain ⟨g,A⟩:=p;obtain ⟨j,C⟩:=q;dsimp only at I c1 L M;have a4:b<wr.heap.size:=by have:=d.size;omega
      by_cases hpq:g=j/\A=C
      · obtain ⟨rfl,rfl⟩:=hpq;go_wp2_with fail
        go_region;go_wp2_with fail
        go_roundw
        case rel=>exact ⟨k+1,by omega,by go_num,by unfold Hid;rw [s.o.1,s.o.2,r.o],d.drew⟩
        case measure=>simp [intOf];omega
      · have o:Hid (l≠m):=λh=>hpq (by injection E.o h with h1 t;exact ⟨h1,t⟩);by_cases h1:g=j
        · have t:¬A=C:=λh=>hpq ⟨h1,h⟩;subst h1;clear hpq;go_wp2_with fail
          go_region;go_wp2_with fail
          go_ret;exact ⟨ap (by symm;exact decide_eq_false o.o),d.drew⟩
        · have a1:¬(g.toNat=j.toNat):=λe=>h1 (UInt8.toNat_inj.1 e);clear hpq;go_wp2_with fail
          go_region;go_wp2_with fail
          go_ret;exact ⟨ap (by symm;exact decide_eq_false o.o),d.drew⟩
    · have D:Hid (l=m):=by have:=r.o;rw [gd (by omega),gd (by omega)] at this;exact this
      go_wp2_with fail
      go_ret;exact ⟨ap (by symm;exact decide_eq_true D.o),d⟩
 · have N:((l.length:Int)!=(m.length:Int))=true:=by simp;omega
   go_enter func105,ntmps105;go_wp2_with fail
   go_ret;exact ⟨ap (by symm;exact decide_eq_false (λh=>hlm (by rw [h]))),eQ _ _⟩
theorem vL (f g:af) (d u:fy) (w:fr) (r:aB 0 w.heap.size w d f.subs) (s:aB 0 w.heap.size w u g.subs) (v:f.subs.length<=1000000) (x:g.subs.length<=1000000):
 gq prog 104 #[.agg #[S f.tag,S f.ind,S f.data,d], .agg #[S g.tag,S g.ind,S g.data,u]] w λe w'=>e=e5 (e6 (decide (f=g)))/\Bw w w':=by
 obtain ⟨t1,k,p,l⟩:=f;obtain ⟨t2,y,z,m⟩:=g;dsimp only at r s v x ⊢;have D:=Z r;have E:=Z s;obtain ⟨a,c,rfl,_⟩:=r;obtain ⟨G,H,rfl,_⟩:=s;have b:∀o i,Bw w ((w.alloc o).alloc i):=λo i=>((eQ _ w).alloc (er _) o).alloc (by simp) i;by_cases e1:t1=t2
 · subst e1;by_cases e2:k=y
   · subst e2;by_cases e3:p=z
     · subst e3;have A:=Z (λo i=>wC (e7 a l.length c) (e7 G m.length H) l m ((w.alloc o).alloc i) ((D.kept (aP (b o i) (er _))).mono (er _) (b o i).size) ((E.kept (aP (b o i) (er _))).mono (er _) (b o i).size) v x);have C:Hid (decide ((⟨t1,k,p,l⟩:af)=⟨t1,k,p,m⟩)=decide (l=m)):=by unfold Hid;simp
       have t:=Z b;clear b;generalize decide (l=m)=q at *;go_enter func104,ntmps104;go_wp2_with (go_at_call 105;((with_reducible refine gb (A.o _ _) ?_);rintro e w' ⟨rfl,I⟩))
       all_goals go_ret
       all_goals exact ⟨ap C.symm,(t _ _).trans (I.mono (t _ _).size)⟩
     · have j:(p==z)=false:=by simpa using e3
       clear e3;go_enter func104,ntmps104;go_wp2_with fail
       go_ret;exact ⟨ap (by symm;exact decide_eq_false (λh=>by injection h with _ _ h;rw [h] at j;simp at j)),b _ _⟩
   · have j:(k==y)=false:=by simpa using e2
     clear e2;go_enter func104,ntmps104;go_wp2_with fail
     go_ret;exact ⟨ap (by symm;exact decide_eq_false (λh=>by injection h with _ h;rw [h] at j;simp at j)),b _ _⟩
 · have j:(t1==t2)=false:=by simpa using e1
   clear e1;go_enter func104,ntmps104;go_wp2_with fail
   go_ret;exact ⟨ap (by symm;exact decide_eq_false (λh=>by injection h with h;rw [h] at j;simp at j)),b _ _⟩
theorem ub (u v:fy) (l m:List af) (w:fr) (L:ai 0 w.heap.size w u l) (M:ai 0 w.heap.size w v m) (hl:l.length<=1000000) (hm:m.length<=1000000) (a0:∀f∈l,f.subs.length<=1000000) (a1:∀f∈m,f.subs.length<=1000000):
 gq prog 103 #[u,v, .func (.func 104) #[] #[]] w λe w'=>e=e5 (e6 (decide (l=m)))/\Bw w w':=by
 have HU:=Z L;have HV:=Z M;have a2:=Z a0;have a3:=Z a1;obtain ⟨a,c,rfl⟩:=L.shape;obtain ⟨a',c',rfl⟩:=M.shape;clear L M a0 a1;by_cases hlm:l.length=m.length
 · have a4:((l.length:Int)!=(m.length:Int))=false:=by simp;omega
   have aC:m.length<=l.length:=by omega
   have ay:l.length<=m.length:=by omega
   have a5:=Z hlm;clear hlm;go_enter func103,ntmps103;go_wp2_with fail
   go_loopw [7,8,9,17] (λ_a _b _c i wr=>∃k:Nat,k<=l.length/\i=J U k/\Hid (l.take k=m.take k)/\Bw w wr) (λ_ _ _ i _=>l.length - (intOf i).toNat)
   case atStart=>exact ⟨0,g7 _,rfl,rfl,eQ _ _⟩
   case round=>
    obtain ⟨k,hk,rfl,N,j⟩:=hrel;by_cases hlt:k<l.length
    · have G:k<m.length:=by omega
      obtain ⟨b,aS,a6,d,E,_,au,c0,c1,c2,c3,H⟩:=(ai.kept HU.o (aP j (er _))).field k hlt;cases E;obtain ⟨t,y,a7,A,E,_,av,T,V,d2,d3,I⟩:=(ai.kept HV.o (aP j (er _))).field k G;cases E;have ax:(k:Int)<(m.length:Int):=by omega
      have O:Hid (l.take (k+1)=l.take k++[l[k]]/\m.take (k+1)=m.take k++[m[k]]):=⟨fx hlt,fx G⟩;have HQ:Hid (l=m->l[k]=m[k]):=λh=>by subst h;rfl
      have D:=j.size;have a8:∀o,(wr.alloc o).cell? ⟨t,y+k * 4,Y⟩=X (S m[k].tag):=λo=>by rw [aM _ _ _ _ (by omega)];exact T
      have a9:∀o,(wr.alloc o).cell? ⟨t,y+k * 4+1,Y⟩=X (S m[k].ind):=λo=>by rw [aM _ _ _ _ (by omega)];exact V
      have ac:∀o,(wr.alloc o).cell? ⟨t,y+k * 4+2,Y⟩=X (S m[k].data):=λo=>by rw [aM _ _ _ _ (by omega)];exact d2
      have ad:∀o,(wr.alloc o).cell? ⟨t,y+k * 4+3,Y⟩=X A:=λo=>by rw [aM _ _ _ _ (by omega)];exact d3
      have s:Hid (∀o g,Bw w ((wr.alloc o).alloc g)):=λo g=>(j.alloc D o).alloc (by simp;omega) g
      have r:Hid (∀W,Bw wr W->gq prog 104 #[.agg #[S l[k].tag,S l[k].ind,S l[k].data,d], .agg #[S m[k].tag,S m[k].ind,S m[k].data,A]] W λe w'=>e=e5 (e6 (decide (l[k]=m[k])))/\Bw W w'):=λW x=>
       vL l[k] m[k] d A W (((H.mono (er _) D).kept (aP x (er _))).mono (er _) x.size) (((I.mono (er _) D).kept (aP x (er _))).mono (er _) x.size) (a2 _ (gy hlt)) (a3 _ (gy G))
      have R:Hid (∀o g,Bw wr ((wr.alloc o).alloc g)):=λo g=>((eQ _ wr).alloc (er _) o).alloc (by simp) g;obtain ⟨da,dc,rfl,_⟩:=id H;obtain ⟨al,ao,rfl,_⟩:=id I;clear H I T V d2 d3;generalize hp:l[k]=p at *;generalize hq:m[k]=q at *;clear hp hq;obtain ⟨p1,p2,p3,p4⟩:=p;obtain ⟨q1,q2,q3,q4⟩:=q;dsimp only at *;by_cases hpq:(⟨p1,p2,p3,p4⟩:af)=⟨q1,q2,q3,q4⟩
      · rw [decide_eq_true hpq] at r;have z:=Z hpq;clear hpq;go_wp2_with (go_at_call 104;((with_reducible refine gb (r.o _ (R.o _ _)) ?_);rintro e w' ⟨rfl,C⟩))
        go_roundw
        case rel=>exact ⟨k+1,by omega,by go_num,by unfold Hid;rw [O.o.1,O.o.2,N.o,z.o],btr (s.o _ _) C (s.o _ _).size⟩
        case measure=>simp [intOf];omega
      · rw [decide_eq_false hpq] at r;have z:=Z hpq;clear hpq;go_wp2_with (go_at_call 104;((with_reducible refine gb (r.o _ (R.o _ _)) ?_);rintro e w' ⟨rfl,C⟩))
        go_ret;exact ⟨ap (by symm;exact decide_eq_false (λh=>z (HQ h))),btr (s _ _) C (s _ _).size⟩
    · have HE:Hid (l=m):=by have:=N.o;rw [gd (by omega),gd (by omega)] at this;exact this
      go_wp2_with fail
      go_ret;exact ⟨ap (by symm;exact decide_eq_true HE.o),j⟩
 · have a4:((l.length:Int)!=(m.length:Int))=true:=by simp;omega
   go_enter func103,ntmps103;go_wp2_with fail
   go_ret;exact ⟨ap (by symm;exact decide_eq_false (λh=>hlm (by rw [h]))),eQ _ _⟩
theorem zA (u v:fy) (r s:az) (w:fr) (R:dH 0 w.heap.size w u r) (T:dH 0 w.heap.size w v s) (N:r.fields.length<=1000000) (O:s.fields.length<=1000000) (E:∀f∈r.fields,f.subs.length<=1000000) (G:∀f∈s.fields,f.subs.length<=1000000):
 gq prog 59 #[u,v] w λe w'=>e=e5 (e6 (decide (r=s)))/\Bw w w':=by
 obtain ⟨j,m,k⟩:=r;obtain ⟨z,p,l⟩:=s;obtain ⟨x,rfl,g⟩:=R;obtain ⟨y,rfl,i⟩:=T;unfold recV;dsimp only at *;have d:∀o b,Bw w ((w.alloc o).alloc b):=λo b=>((eQ _ w).alloc (er _) o).alloc (by simp) b;by_cases e1:j=z
 · subst e1;by_cases e2:m=p
   · subst e2;have H:=Z (λo b=>ub x y k l ((w.alloc o).alloc b) ((g.kept (aP (d o b) (er _))).mono (er _) (d o b).size) ((i.kept (aP (d o b) (er _))).mono (er _) (d o b).size) N O E G);have I:Hid (decide ((⟨j,m,k⟩:az)=⟨j,m,l⟩)=decide (k=l)):=by unfold Hid;simp
     obtain ⟨a,c,rfl⟩:=g.shape;obtain ⟨C,D,rfl⟩:=i.shape;have A:=Z d;clear d g i E G;generalize decide (k=l)=q at *;go_enter func59,ntmps59;go_wp2_with (go_at_call 103;((with_reducible refine gb (H.o _ _) ?_);rintro e w' ⟨rfl,M⟩))
     all_goals go_ret
     all_goals exact ⟨ap I.symm,(A _ _).trans (M.mono (A _ _).size)⟩
   · have L:¬(m.toNat=p.toNat):=λe=>e2 (UInt8.toNat_inj.1 e);have t:Hid (decide ((⟨j,m,k⟩:az)=⟨j,p,l⟩)=false):=decide_eq_false (λh=>e2 (by injection h));obtain ⟨a,c,rfl⟩:=g.shape;obtain ⟨C,D,rfl⟩:=i.shape;clear e2 g i;go_enter func59,ntmps59;go_wp2_with fail
     go_ret;exact ⟨ap t.symm,d _ _⟩
 · have L:¬(j.toNat=z.toNat):=λe=>e1 (UInt8.toNat_inj.1 e);have t:Hid (decide ((⟨j,m,k⟩:az)=⟨z,p,l⟩)=false):=decide_eq_false (λh=>e1 (by injection h));obtain ⟨a,c,rfl⟩:=g.shape;obtain ⟨C,D,rfl⟩:=i.shape;clear e1 g i;go_enter func59,ntmps59;go_wp2_with fail
   go_ret;exact ⟨ap t.symm,d _ _⟩
theorem yf (w:fr):gq prog 32 #[] w λe w'=>e=e5 (ej (X ⟨w.heap.size,0,Y⟩))/\w'=w.alloc (e8 #[em Y,em Y,em Y,ej Y] 117):=by
 go_enter func32,ntmps32;go_wp2;go_ret;exact ⟨rfl,rfl⟩
theorem p6 (b n:Nat) (w:fr) (a:w.cell? ⟨b,0,Y⟩=X (em (X n))):gq prog 57 #[ej (X ⟨b,0,Y⟩)] w λe w'=>e=e5 (.tuple #[])/\w=w':=by
 have c:∀(w:fr) (r:Option Nat),(binOp .eql 113 (.map r) (em Y)).run prog w= .ok (e6 r.isNone) w:=λw r=>run_eql_map_nil w 113 _ _ r underlying113;go_enter func57,ntmps57;go_wp2;go_end0
 exact ⟨rfl,rfl⟩
theorem p7 (b:Nat) (v:fy) (w:fr) (h:w.heap[b]? =X (e8 #[em Y,em Y,em Y,v] 117 (0,0))):gq prog 57 #[ej (X ⟨b,0,Y⟩)] w λe w'=>e=e5 (.tuple #[])/\
 w'=((((((w.alloc (.map #[] 0)).alloc (.map #[] 0)).alloc (.map #[] 0)).setCell ⟨b,0,Y⟩ (em (X w.heap.size))).setCell ⟨b,1,Y⟩ (em (X (w.heap.size+1)))).setCell ⟨b,2,Y⟩ (em (X (w.heap.size+2)))):=by
 have d:w.cell? ⟨b,0,Y⟩=X (em Y):=by rw [aa h];rfl
 have c1:w.cell? ⟨b,1,Y⟩=X (em Y):=by rw [aa h];rfl
 have c2:w.cell? ⟨b,2,Y⟩=X (em Y):=by rw [aa h];rfl
 have j:=ab h 0;have k:=ab h 1;have l:=ab h 2;have c:=ae h;have a:(((w.alloc (.map #[] 0)).alloc (.map #[] 0)).alloc (.map #[] 0)).heap[b]? =X (e8 #[em Y,em Y,em Y,v] 117 (0,0)):=by rw [fl _ _ _ (by simp;omega),fl _ _ _ (by simp;omega),fl _ _ _ c];exact h
 have f:(((w.alloc (.map #[] 0)).alloc (.map #[] 0)).alloc (.map #[] 0)).cell? ⟨b,0,Y⟩=X (em Y):=by rw [aa a];rfl
 have g:(((w.alloc (.map #[] 0)).alloc (.map #[] 0)).alloc (.map #[] 0)).cell? ⟨b,1,Y⟩=X (em Y):=by rw [aa a];rfl
 have i:(((w.alloc (.map #[] 0)).alloc (.map #[] 0)).alloc (.map #[] 0)).cell? ⟨b,2,Y⟩=X (em Y):=by rw [aa a];rfl
 have m:=ab a 0;have o:=ab a 1;have p:=ab a 2;clear a;clear h;have s:∀(w:fr) (r:Option Nat),(binOp .eql 113 (.map r) (em Y)).run prog w= .ok (e6 r.isNone) w:=λw r=>run_eql_map_nil w 113 _ _ r underlying113;have q:= @run_makeMap prog;go_enter func57,ntmps57;go_wp2;go_end0
 exact ⟨rfl,rfl⟩
end
section
open Go.RowKit Go.Maps Go.Shelf
section
variable {P:hH} {kt:g9} {K:Type} [DecidableEq K] {B:et P kt K}
def bW (B:et P kt K) (w:fr) (mv:Option Nat) (l:List (K×fy)):Prop:=match mv with
 |none=>l=[]
 |some b=>am B w b l
theorem bW.block {w w':fr} {mv:Option Nat} {l:List (K×fy)} (h:bW B w mv l) (a:∀b,mv=X b->w'.heap[b]? =w.heap[b]?):bW B w' mv l:=by
 cases mv with
 |none=>exact h
 |some b=>exact am.block h (a b rfl)
theorem bW.look_ok {w:fr} {mv:Option Nat} {l:List (K×fy)} (h:bW B w mv l) {t e:g9} (c:P.underlying t=X (.map kt e)) {z:fy} (d:∀u:fr,(zeroValue e).run P u= .ok z u) (k:K) (a:B.ok k):
 (gz t (.map mv) (B.kv k) true).run P w= .ok (.tuple #[(lookL l k).getD z,e6 (lookL l k).isSome]) w:=by
 cases mv with
 |none=> have h:l=[]:=h;subst h;rw [Maps.look_nil true B.keyed c (d w) (B.key k a)];rfl
 |some b=>exact am.look_ok h c (d w) k a
theorem bW.look {w:fr} {mv:Option Nat} {l:List (K×fy)} (h:bW B w mv l) {t e:g9} (c:P.underlying t=X (.map kt e)) {z:fy} (d:∀u:fr,(zeroValue e).run P u= .ok z u) (k:K) (a:B.ok k):
 (gz t (.map mv) (B.kv k) false).run P w= .ok ((lookL l k).getD z) w:=by
 cases mv with
 |none=> have h:l=[]:=h;subst h;rw [Maps.look_nil false B.keyed c (d w) (B.key k a)];rfl
 |some b=>exact am.look h c (d w) k a
theorem bW.len {w:fr} {mv:Option Nat} {l:List (K×fy)} (h:bW B w mv l) {t e:g9} (c:P.underlying t=X (.map kt e)) (a:g9):
 (Builtin.len_ #[t] a #[.map mv]).run P w= .ok (J U l.length) w:=by
 cases mv with
 |none=> have h:l=[]:=h;subst h;exact Maps.len_nil c a
 |some b=> obtain ⟨g,d,f,_⟩:=h;have:=d.len c a;rw [am.size f] at this;exact this
theorem bW.lt {w:fr} {b:Nat} {l:List (K×fy)} (h:bW B w (X b) l):b<w.heap.size:=am.lt h
theorem bW.ok {w:fr} {mv:Option Nat} {l:List (K×fy)} (h:bW B w mv l):∀p∈l,B.ok p.1:=by
 cases mv with
 |none=> have h:l=[]:=h;subst h;intro p a;cases a
 |some b=>exact am.ok h
end
theorem dY {K V:Type} [DecidableEq K] (l:List (K×V)) (f:V->fy) (k:K):lookL (l.map λp=>(p.1,f p.2)) k=(findK l k).map f:=by
 induction l with
 |nil=>rfl
 |cons p l ih=>
  unfold findK at ih ⊢;rw [hE,c8,List.find?_cons];by_cases h:p.1=k
  · rw [if_pos h];simp [h]
  · rw [if_neg h,ih];simp [h]
theorem Ax {K V:Type} [DecidableEq K] (l:List (K×V)) (f:K->V->fy) (k:K):ct (l.map λp=>(p.1,f p.1 p.2)) k=(l.filter λp=> !decide (p.1=k)).map λp=>(p.1,f p.1 p.2):=by
 unfold ct;rw [List.filter_map];rfl
theorem jj {K V:Type} [DecidableEq K] {lt:K->K->Bool} (T:Tot lt) {l:List (K×V)} (a:aw lt l) (f:K->V->fy) (k:K) (v:V):
 (putL (l.map λp=>(p.1,f p.1 p.2)) k (f k v)).Perm ((insL lt l k v).map λp=>(p.1,f p.1 p.2)):=by
 unfold putL;rw [Ax];have:=(yo T a k v).map (λp=>(p.1,f p.1 p.2));rw [List.map_append] at this;exact this
def kI (k:RK) (n:Int) (r:az) (x:fy):fy:= .agg #[J U k.1,J U k.2,J U n,J e9 r.kind.toNat,J e9 r.level.toNat,x]
abbrev VX:=(Int×az)×fy
def ir (k:RK) (p:VX):fy:=kI k p.1.1 p.1.2 p.2
def ff (p:Int×Bool):fy:= .agg #[J U p.1,e6 p.2]
theorem uW {K V W:Type} [DecidableEq K] (lt:K->K->Bool) (g:V->W) (l:List (K×V)) (k:K) (v:V):(insL lt l k v).map (λp=>(p.1,g p.2))=insL lt (l.map λp=>(p.1,g p.2)) k (g v):=by
 induction l with
 |nil=>rfl
 |cons p l ih=>
  unfold insL;rw [hE];dsimp only;by_cases h:lt p.1 k=true
  · rw [if_pos h,if_pos h,hE,ih]
  · rw [if_neg h,if_neg h];by_cases h2:p.1=k
    · rw [if_pos h2,if_pos h2];rfl
    · rw [if_neg h2,if_neg h2];rfl
def dU (F:Nat->Prop) (w:fr) (p:RK×VX):Prop:=∃lo a,ai lo a w p.2.2 p.2.1.2.fields/\a<=w.heap.size/\∀k,lo<=k->k<a->F k
theorem dU.step {F:Nat->Prop} {w w':fr} {p:RK×VX} (h:dU F w p) (f:∀k,F k->w'.heap[k]? =w.heap[k]?) (i:w.heap.size<=w'.heap.size):dU F w' p:=by
 obtain ⟨lo,e,d,g,c⟩:=h;exact ⟨lo,e,d.kept (λk a b=>f k (c k a b)),by omega,c⟩
theorem dU.wide {F G:Nat->Prop} {w:fr} {p:RK×VX} (h:dU F w p) (f:∀k,F k->G k):dU G w p:=by
 obtain ⟨lo,g,c,d,e⟩:=h;exact ⟨lo,g,c,d,λk a b=>f k (e k a b)⟩
def jA (F:Nat->Prop) (w:fr) (mv:Option Nat) (a:VL):Prop:=
 ∃ps:List (RK×VX),ps.map (λp=>(p.1,p.2.1))=a/\bW recB w mv (ps.map λp=>(p.1,ir p.1 p.2))/\∀p∈ps,dU F w p
structure BF (w:fr) (b:Nat) (L:VL) (set:List Nat):Prop where
 ex:∃l,am recB w b l/\∀k,lookL l k=(atC L k).map λi=>recK (keyC L (set.getD i 0))
structure zl (F:Nat->Prop) (w:fr) (b:Nat) (L:VL) (set:List Nat):Prop where
 ex:∃l,am recB w b l/\(∀k,(lookL l k).isSome=true↔∃t,t<L.length/\set.getD t 0=t/\keyC L t=k)/\
  ∀t,t<L.length->set.getD t 0=t->∃v,lookL l (keyC L t)=some v/\∃g n cap,v= .slice (some ⟨g,0,none⟩) n cap/\F g/\eu 0 w.heap.size w v (aW L set t)
def cV (F:Nat->Prop) (w:fr) (t:Nat) (L:VL) (set:List Nat):Prop:=
 ∃b a,w.heap[t]? =X (e8 #[em (X b),em (X a)] 95 (0,0))/\F t/\F b/\F a/\BF w b L set/\zl F w a L set
def AL (F:Nat->Prop) (w:fr) (a:fy) (d:aE):Prop:=a=ej Y∨∃t,a=ej (X ⟨t,0,Y⟩)/\cV F w t (thereC d) (setsC d)
structure bf (d:aE):Prop where
 ok:d.Ok
 vlen:d.vs.length<=5000
 dlen:d.ds.length<=5000
 plen:d.ps.length<=5000
 right:∀p∈d.vs,wrongR p.2.2=0
 vnum:∀p∈d.vs,i64B p.2.1
 dnum:∀p∈d.ds,i64B p.2
 pnum:∀p∈d.ps,i64B p.2.1
 vkey:∀p∈d.vs,rkOk p.1
 dkey:∀p∈d.ds,rkOk p.1
 pkey:∀p∈d.ps,pkOk p.1
def restF (F:Nat->Prop) (c:Nat) (a b d:Option Nat) (k:Nat):Prop:=F k/\k≠c/\a≠X k/\b≠X k/\d≠X k
structure dw (F:Nat->Prop) (w:fr) (c:Nat) (m1 m2 m3:Option Nat) (kn:fy) (d:aE):Prop where
 blk:w.heap[c]? =some (.cells #[.map m1, .map m2, .map m3,kn] 117 (0,0))
 vs:jA (restF F c m1 m2 m3) w m1 d.vs
 ds:bW recB w m2 (d.ds.map λp=>(p.1, .int .i64 p.2))
 ps:bW pairB w m3 (d.ps.map λp=>(p.1,ff p.2))
 kn:AL (restF F c m1 m2 m3) w kn d
 fc:F c
 f1:∀m,m1=some m->F m
 f2:∀m,m2=some m->F m
 f3:∀m,m3=some m->F m
 one:(m1=none/\m2=none/\m3=none)∨∃a b e,m1=some a/\m2=some b/\m3=some e/\a≠b/\a≠e/\b≠e
 lt:∀k,F k->k<w.heap.size
 ok:bf d
def bL (F:Nat->Prop) (w:fr) (c:Nat) (d:aE):Prop:=∃b e f a,dw F w c b e f a d
theorem jA.step {F:Nat->Prop} {w w':fr} {mv:Option Nat} {a:VL} (h:jA F w mv a) (g:∀b,mv=X b->w'.heap[b]? =w.heap[b]?) (f:∀k,F k->w'.heap[k]? =w.heap[k]?) (j:w.heap.size<=w'.heap.size):jA F w' mv a:=by
 obtain ⟨ps,c,d,e⟩:=h;exact ⟨ps,c,d.block g,λp i=>(e p i).step f j⟩
theorem jA.wide {F G:Nat->Prop} {w:fr} {mv:Option Nat} {a:VL} (h:jA F w mv a) (e:∀k,F k->G k):jA G w mv a:=by
 obtain ⟨ps,b,c,d⟩:=h;exact ⟨ps,b,c,λp f=>(d p f).wide e⟩
theorem cV.step {F:Nat->Prop} {w w':fr} {t:Nat} {L:VL} {set:List Nat} (h:cV F w t L set) (f:∀k,F k->w'.heap[k]? =w.heap[k]?) (hz:w.heap.size<=w'.heap.size):cV F w' t L set:=by
 obtain ⟨s,r,z,m,o,p,⟨l,A,C⟩,⟨R,D,E,G⟩⟩:=h;refine ⟨s,r,(f t m).trans z,m,o,p,⟨l,A.block (f s o),C⟩,⟨R,D.block (f r p),E,λt M V=>?_⟩⟩;obtain ⟨v,N,g,n,u,i,q,I⟩:=G t M V;refine ⟨v,N,g,n,u,i,q,?_⟩;subst i;obtain ⟨a,c,d,h⟩:=I;refine ⟨a,c,d,λH=>?_⟩;obtain ⟨b,T,e,W,g2,y⟩:=h H;injection d with d _ _
 rw [<- d] at e;injection e with e
 injection e with hb ho i
 subst hb;refine ⟨g,T,by rw [<- d,ho],g7 _,by omega,λj x O=>?_⟩;rw [World.cell?_of_block (w:=w) (f g q)];exact y j x O
theorem cV.wide {F G:Nat->Prop} {w:fr} {t:Nat} {L:VL} {set:List Nat} (h:cV F w t L set) (a:∀k,F k->G k):cV G w t L set:=by
 obtain ⟨y,x,c,d,e,f,i,⟨u,j,l,m⟩⟩:=h;refine ⟨y,x,c,a _ d,a _ e,a _ f,i,⟨u,j,l,λt r z=>?_⟩⟩;obtain ⟨v,s,g,n,b,q,o,p⟩:=m t r z;exact ⟨v,s,g,n,b,q,a _ o,p⟩
theorem dw.step {F:Nat->Prop} {w w':fr} {c:Nat} {l m o:Option Nat} {j:fy} {d:aE} (h:dw F w c l m o j d) (a:∀k,F k->w'.heap[k]? =w.heap[k]?) (i:w.heap.size<=w'.heap.size):dw F w' c l m o j d:=by
 refine ⟨(a c h.fc).trans h.blk,h.vs.step (λb e=>a b (h.f1 b e)) (λk g=>a k g.1) i,h.ds.block (λb e=>a b (h.f2 b e)),h.ps.block (λb e=>a b (h.f3 b e)),?_,h.fc,h.f1,h.f2,h.f3,h.one,λk q=>Nat.lt_of_lt_of_le (h.lt k q) i,h.ok⟩;rcases h.kn with f|⟨t,f,p⟩
 · exact .inl f
 · exact .inr ⟨t,f,p.step (λk g=>a k g.1) i⟩
theorem bL.step {F:Nat->Prop} {w w':fr} {c:Nat} {d:aE} (h:bL F w c d) (a:∀k,F k->w'.heap[k]? =w.heap[k]?) (b:w.heap.size<=w'.heap.size):bL F w' c d:=by
 obtain ⟨f,g,i,e,h⟩:=h;exact ⟨f,g,i,e,h.step a b⟩
theorem dw.below {F:Nat->Prop} {w w':fr} {c:Nat} {e f g:Option Nat} {b:fy} {d:aE} (h:dw F w c e f g b d) (a:Bw w w'):dw F w' c e f g b d:=
 h.step (λk i=>a.block k (h.lt k i)) a.size
theorem bL.below {F:Nat->Prop} {w w':fr} {c:Nat} {d:aE} (h:bL F w c d) (a:Bw w w'):bL F w' c d:=by
 obtain ⟨e,f,g,b,h⟩:=h;exact ⟨e,f,g,b,h.below a⟩
theorem vf:bf cat0:=by
 refine ⟨⟨.nil, .nil, .nil,?_⟩,?_,?_,?_,?_,?_,?_,?_,?_,?_,?_⟩<;>simp [cat0]
theorem uM (w:fr):bL (λk=>k=w.heap.size) (w.alloc (e8 #[em Y,em Y,em Y,ej Y] 117)) w.heap.size cat0:=by
 refine ⟨Y,Y,Y,ej Y,es w _,⟨[],rfl,rfl,?_⟩,rfl,rfl, .inl rfl,rfl,?_,?_,?_, .inl ⟨rfl,rfl,rfl⟩,λk b=>by rw [b];simp,vf⟩
 · intro p c;cases c
 · intro m a;cases a
 · intro m a;cases a
 · intro m a;cases a
theorem am.empty {P:hH} {kt:g9} {K:Type} [DecidableEq K] {B:et P kt K} {w:fr} {b:Nat} (h:w.heap[b]? =X (.map #[] 0)):am B w b []:=by
 obtain ⟨d,⟨e,c,a,f⟩,g⟩:=am.made (B:=B) w;rw [es] at a;exact ⟨d,⟨e,c,h.trans a,f⟩,g⟩
theorem aj {w:fr} {b c:Nat} {cs:Array fy} {t:g9} {P:hH} {kt:g9} {K:Type} [DecidableEq K] {B:et P kt K} {l:List (K×fy)} (e:am B w b l) (d:w.heap[c]? =X (e8 cs t (0,0))):b≠c:=by
 rintro rfl;obtain ⟨f,⟨g,k,a,_⟩,_⟩:=e;rw [d] at a;cases a
theorem gT {F:Nat->Prop} {w:fr} {c:Nat} {m1 m2 m3:Option Nat} {u:fy} {d:aE} (h:dw F w c m1 m2 m3 u d):
 gq prog 57 #[ej (X ⟨c,0,Y⟩)] w λe w'=>e=e5 (.tuple #[])/\∃y a b z,dw y w' c (X a) (X b) (X z) u d/\ah F w y w':=by
 rcases h.one with ⟨rfl,rfl,rfl⟩|⟨a,b,e,rfl,rfl,rfl,a5,a6,a7⟩
 · refine (p7 c u w h.blk).mono ?_;rintro e w' ⟨rfl,rfl⟩
   · obtain ⟨i,o⟩:=Qe (((w.alloc (.map #[] 0)).alloc (.map #[] 0)).alloc (.map #[] 0));have T:=h.lt c h.fc;have a4:i.heap.size=w.heap.size+3:=by rw [<- o];simp
     have C:∀k,k<w.heap.size->i.heap[k]? =w.heap[k]? :=λk f=>by rw [<- o,fl _ _ _ (by simp;omega),fl _ _ _ (by simp;omega),fl _ _ _ f]
     have M:i.heap[w.heap.size]? =X (.map #[] 0):=by rw [<- o,fl _ _ _ (by simp;omega),fl _ _ _ (by simp)];exact es w _
     have N:i.heap[w.heap.size+1]? =X (.map #[] 0):=by rw [<- o,fl _ _ _ (by simp)];have:=es (w.alloc (.map #[] 0)) (.map #[] 0);rwa [fz] at this
     have R:i.heap[w.heap.size+2]? =X (.map #[] 0):=by rw [<- o];have:=es ((w.alloc (.map #[] 0)).alloc (.map #[] 0)) (.map #[] 0);rwa [fz,fz] at this
     rw [o];obtain ⟨l,q⟩:=Qe (((i.setCell ⟨c,0,Y⟩ (em (X w.heap.size))).setCell ⟨c,1,Y⟩ (em (X (w.heap.size+1)))).setCell ⟨c,2,Y⟩ (em (X (w.heap.size+2))));have a8:l.heap.size=w.heap.size+3:=by rw [<- q];simp [a4]
     have s:∀k,k≠c->l.heap[k]? =i.heap[k]? :=λk f=>by rw [<- q,fp _ _ _ _ f,fp _ _ _ _ f,fp _ _ _ _ f]
     have V:l.heap[c]? =X (e8 #[em (X w.heap.size),em (X (w.heap.size+1)),em (X (w.heap.size+2)),u] 117 (0,0)):=by rw [<- q];have D:=an ((C c T).trans h.blk) 0 (em (X w.heap.size));have E:=an D 1 (em (X (w.heap.size+1)));have G:=an E 2 (em (X (w.heap.size+2)));exact G
     rw [q];have x:∀j,w.heap.size+j≠c:=λj=>by omega
     have H:l.heap[w.heap.size]? =X (.map #[] 0):=(s _ (x 0)).trans M;have I:l.heap[w.heap.size+1]? =X (.map #[] 0):=(s _ (x 1)).trans N;have L:l.heap[w.heap.size+2]? =X (.map #[] 0):=(s _ (x 2)).trans R;have A:∀k,k<w.heap.size->k≠c->l.heap[k]? =w.heap[k]? :=λk f a0=>(s k a0).trans (C k f);obtain ⟨ps,q1,q2,q3⟩:=h.vs;have a3:ps=[]:=by simpa using (show ps.map (λp=>(p.1,ir p.1 p.2))=[] from q2)
     subst a3;have W:d.ds=[]:=by simpa using (show d.ds.map (λp=>(p.1,hG U p.2))=[] from h.ds)
     have a2:d.ps=[]:=by simpa using (show d.ps.map (λp=>(p.1,ff p.2))=[] from h.ps)
     have a1:∀k,F k->k<w.heap.size:=h.lt;refine ⟨rfl,λk=>F k∨k=w.heap.size∨k=w.heap.size+1∨k=w.heap.size+2,w.heap.size,w.heap.size+1,w.heap.size+2,?_,?_⟩
     · refine ⟨V,⟨[],q1,am.empty H,(by intro p hp;cases hp)⟩,?_,?_,?_, .inl h.fc,?_,?_,?_, .inr ⟨_,_,_,rfl,rfl,rfl,by omega,by omega,by omega⟩,?_,h.ok⟩
       · rw [W];exact am.empty I
       · rw [a2];exact am.empty L
       · rcases h.kn with v|⟨t,v,O⟩
         · exact .inl v
         · refine .inr ⟨t,v,(O.step (λk r=>A k (h.lt k r.1) r.2.1) (by omega)).wide λk r=>?_⟩;have:=h.lt k r.1;exact ⟨.inl r.1,r.2.1,λe=>by injection e with e;omega,λe=>by injection e with e;omega,λe=>by injection e with e;omega⟩
       · intro m g;injection g with g;exact .inr (.inl g.symm)
       · intro m g;injection g with g;exact .inr (.inr (.inl g.symm))
       · intro m g;injection g with g;exact .inr (.inr (.inr g.symm))
       · intro k f;rcases f with f|f|f|f
         · have:=a1 k f;omega
         all_goals omega
     · refine ⟨?_,?_,?_,by omega,?_,?_⟩
       · rw [<- q, <- o];rfl
       · rw [<- q, <- o];rfl
       · rw [<- q, <- o];rfl
       · intro k f hn;exact A k f λe=>hn (e ▸ h.fc)
       · intro k f;rcases f with f|f|f|f
         · exact .inl f
         all_goals exact .inr (by omega)
 · refine (p6 c a w ((aa h.blk 0).trans rfl)).mono ?_;rintro z w' ⟨rfl,rfl⟩;exact ⟨rfl,F,a,b,e,h,ah.refl _ _⟩
end
section
open Go.RowKit Go.Maps Go.Shelf
theorem un:∀u:fr,(zeroValue 3).run prog u= .ok (J U 0) u:=λu=>by kernel_rfl
theorem fI:∀u:fr,(zeroValue 139).run prog u= .ok (.agg #[J U 0,e6 false]) u:=λu=>by kernel_rfl
theorem jD:∀u:fr,(zeroValue 64).run prog u= .ok (.agg #[J U 0,J U 0,J U 0,J e9 0,J e9 0,e7 Y 0 0]) u:=λu=>by kernel_rfl
theorem lI (q:Bool) (a b:Int) (m:Nat):aY false q a b m=aY false false a b m:=by unfold aY;simp
def dG (d:aE) (k:RK) (n:Int):Int:=aY (findK d.ds k).isSome (decide ((findK d.ds k).getD 0=n)) ((findK d.ds k).getD 0) n d.ds.length
theorem pR (d:aE) (k:RK) (n:Int):dropC d k n=if dG d k n=0 then ({d with ds:=insL ltRK d.ds k n},0) else (d,dG d k n):=by
 unfold dropC dG;cases findK d.ds k with
 |none=>simp only [hJ,hK];rw [lI (decide (0=n))]
 |some m=>rfl
theorem fT {t q:Bool} {a b:Int} {m:Nat} (h:aY t q a b m=0) (c:t=false):m<5000:=by
 subst c;unfold aY at h;simp only [Bool.false_and,Bool.false_eq_true,if_false,Bool.not_false,Bool.true_and] at h;by_cases h5:5000<=m
 · simp [h5] at h
 · omega
theorem rQ {K V:Type} [DecidableEq K] {lt:K->K->Bool} (l:List (K×V)) (k:K) (v:V):(insL lt l k v).length<=l.length+1:=by
 induction l with
 |nil=>simp [insL]
 |cons p l ih=>
  unfold insL;split
  · simp only [gx];omega
  · split
    · simp only [gx];omega
    · simp only [gx];omega
theorem rP {K V:Type} [DecidableEq K] {lt:K->K->Bool} (T:Tot lt) {l:List (K×V)} (b:aw lt l) (k:K) (v:V) (h:(findK l k).isSome=true):(insL lt l k v).length=l.length:=by
 induction l with
 |nil=>simp [findK] at h
 |cons p l ih=>
  obtain ⟨c,d⟩:=List.pairwise_cons.1 b;unfold insL;by_cases hp:lt p.1 k=true
  · rw [if_pos hp];have f:p.1≠k:=by intro e;rw [e,T.irr] at hp;cases hp
    have:(findK l k).isSome=true:=by unfold findK at h ⊢;rw [List.find?_cons] at h;simpa [f] using h
    simp only [gx];rw [ih d this]
  · rw [if_neg hp];by_cases hk:p.1=k
    · rw [if_pos hk];rfl
    · exfalso;rw [Option.isSome_iff_exists] at h;obtain ⟨x,a⟩:=h;rw [dQ T b] at a;rcases List.mem_cons.1 a with a|a
      · exact hk (by rw [<- a])
      · exact hp (c _ a)
theorem pL {K V:Type} [DecidableEq K] {lt:K->K->Bool} (T:Tot lt) {l:List (K×V)} (b:aw lt l) (k:K) (v:V) (a:l.length<=5000) (h:(findK l k).isSome=false->l.length<5000):(insL lt l k v).length<=5000:=by
 cases hf:(findK l k).isSome
 · have:=rQ (lt:=lt) l k v;have:=h hf;omega
 · rw [rP T b k v hf];exact a
theorem dv {K V:Type} [DecidableEq K] {lt:K->K->Bool} (T:Tot lt) {l:List (K×V)} (d:aw lt l) {k:K} {v:V} {R:K×V->Prop} (h:∀p∈l,R p) (b:R (k,v)):∀p∈insL lt l k v,R p:=λp c=>by
 rcases (pK T d k v p).1 c with rfl|⟨a,_⟩
 · exact b
 · exact h p a
theorem bf.drop {d:aE} (h:bf d) {k:RK} {n:Int} (b:rkOk k) (c:i64B n) (e:dG d k n=0):bf {d with ds:=insL ltRK d.ds k n}:=by
 refine ⟨⟨h.ok.vs,eR aN h.ok.ds k n,h.ok.ps,h.ok.apart⟩,h.vlen,?_,h.plen,h.right,h.vnum,dv aN h.ok.ds h.dnum c,h.pnum,h.vkey,dv aN h.ok.ds h.dkey b,h.pkey⟩;exact pL aN h.ok.ds k n h.dlen λa=>fT e a
theorem dw.put2 {F:Nat->Prop} {w j:fr} {c a b e:Nat} {E:fy} {d:aE} {ds:List (RK×Int)} (h:dw F w c (X a) (X b) (X e) E d) (q:aq b w j) (i:am recB j b (ds.map λp=>(p.1,J U p.2))) (C:bf {d with ds:=ds}):
 dw F (j.setCell ⟨c,3,Y⟩ (ej Y)) c (X a) (X b) (X e) (ej Y) {d with ds:=ds}:=by
 have u:c≠b:=λe=>(aj (show am recB w b _ from h.ds) h.blk) e.symm;have y:c≠a:=λe=>by obtain ⟨ps,_,g,_⟩:=h.vs;exact (aj (show am recB w a _ from g) h.blk) e.symm
 have z:c≠e:=λr=>(aj (show am pairB w e _ from h.ps) h.blk) r.symm;rcases h.one with ⟨f,_⟩|⟨G,H,r,f,g,l,s,x,t⟩
 · cases f
 injection f with f;injection g with g;injection l with l
 subst f;subst g;subst l;have o:∀k,k≠c->k≠b->(j.setCell ⟨c,3,Y⟩ (ej Y)).heap[k]? =w.heap[k]? :=λk f g=>(fp _ _ _ _ f).trans (q.block k g);have D:(j.setCell ⟨c,3,Y⟩ (ej Y)).heap.size=w.heap.size:=by rw [gp,q.size]
 refine ⟨?_,h.vs.step (λm i=>by injection i with i;subst i;exact o _ (ht y) s) (λk v=>o k v.2.1 (λe=>v.2.2.2.1 (by rw [e]))) (by omega),?_,?_, .inl rfl,h.fc,h.f1,h.f2,h.f3, .inr ⟨a,b,e,rfl,rfl,rfl,s,x,t⟩,λk A=>by rw [D];exact h.lt k A,C⟩
 · exact an ((q.block c u).trans h.blk) 3 (ej Y)
 · exact i.block (fp _ _ _ _ (ht u))
 · exact am.block (show am pairB w e _ from h.ps) (o e (ht z) (ht t))
theorem uY (F:Nat->Prop) (w:fr) (c:Nat) (d:aE) (h:bL F w c d) (k:RK) (n:Int) (V:rkOk k) (hn:i64B n):
 gq prog 27 #[ej (X ⟨c,0,Y⟩),recK k,J U n] w λe w'=>e=e5 (J U (dropC d k n).2)/\∃l,bL l w' c (dropC d k n).1/\ah F w l w':=by
 have a2:=Z (pR d k n);obtain ⟨m1,m2,m3,kn,h⟩:=h;obtain ⟨f,g⟩:=k;unfold recK;dsimp only;obtain ⟨i,R⟩:=Qe (w.alloc (e8 #[J U f,J U g] 36));have T:Bw w i:=by rw [<- R];exact (eQ _ w).alloc (er _) _
 have D:i.heap[w.heap.size]? =X (e8 #[J U f,J U g] 36 (0,0)):=by rw [<- R];exact es w _
 have q:=h.below T;have c1:i.cell? ⟨c,1,Y⟩=X (.map m2):=(aa q.blk 1).trans rfl;have b0:i.cell? ⟨w.heap.size,0,Y⟩=X (J U f):=(aa D 0).trans rfl;have b1:i.cell? ⟨w.heap.size,1,Y⟩=X (J U g):=(aa D 1).trans rfl;have a0:=bW.look_ok (w:=i.drew) (q.ds.block (λ_ _=>rfl)) underlying114 un (f,g) V;have ay:=λty=>bW.len (w:=i.drew) (q.ds.block (λ_ _=>rfl)) underlying114 ty;rw [dY d.ds (λn=>hG U n)] at a0;rw [gn] at ay;have b4:(gz 114 (.map m2) (.agg #[J U f,J U g]) true).run prog i.drew= .ok (.tuple #[J U ((findK d.ds (f,g)).getD 0),e6 (findK d.ds (f,g)).isSome]) i.drew:=by refine Eq.trans a0 ?_;cases findK d.ds (f,g)<;>rfl
 have HX:Hid (dG d (f,g) n=aY (findK d.ds (f,g)).isSome (decide ((findK d.ds (f,g)).getD 0=n)) ((findK d.ds (f,g)).getD 0) n d.ds.length):=rfl;have ao:Hid (dG d (f,g) n=0->bf {d with ds:=insL ltRK d.ds (f,g) n}):=h.ok.drop V hn;clear a0;generalize (findK d.ds (f,g)).isSome=there at *;generalize (findK d.ds (f,g)).getD 0=old at *;generalize d.ds.length=many at *;have N:Hid (∀W,gq prog 56 #[e6 there,e6 (decide (old=n)),J U old,J U n,J U many] W λe w'=>e=e5 (J U (dG d (f,g) n))/\W=w'):=λW=>by rw [HX.o];exact gH _ _ _ _ _ W
 have HH:=Z q;have a1:=Z T;have HB:=Z D;have a3:Hid (i.heap.size=w.heap.size+1):=by unfold Hid;rw [<- R];simp
 have ad:=Z h.lt;have b3:c<w.heap.size:=h.lt c h.fc;clear h q T D;by_cases hx:dG d (f,g) n=0
 · rw [hx] at N;have C:=Z hx;clear hx;go_enter func27,ntmps27;go_wp2;go_region
   go_wp2_with (first
    |(go_at_call 56;((with_reducible refine gb (N.o _) ?_);rintro e w2 ⟨rfl,rfl⟩))
    |(go_at_call 57;((with_reducible refine gb (gT (HH.o.below (eQ _ i).drew)) ?_);rintro e m ⟨rfl,l,a,b,e',t,H⟩)))
   have a7:¬F w.heap.size:=λhf=>by have:=ad.o _ hf;omega
   have b5:¬l w.heap.size:=H.not (by have:=a3.o;show w.heap.size<i.heap.size;omega) a7;have O:m.heap[w.heap.size]? =X (e8 #[J U f,J U g] 36 (0,0)):=(H.block _ (by have:=a3.o;show w.heap.size<i.heap.size;omega) a7).trans HB.o;have G:am recB m b _:=t.ds;obtain ⟨st,ax,av,a8,a4,o,ac⟩:=am.entry (w:=m.drew) (am.drew G) gJ underlying114 un (f,g) V (by rw [gn];have:=t.ok.dlen;unfold maxLen;omega);have L:c≠b:=λe=>(aj G t.blk) e.symm;have E:w.heap.size≠b:=λe=>(aj G O) e.symm;have y:m.drew.cell? ⟨c,1,Y⟩=X (em (X b))/\m.drew.cell? ⟨w.heap.size,0,Y⟩=X (J U f)/\m.drew.cell? ⟨w.heap.size,1,Y⟩=X (J U g):=⟨(aa t.blk 1).trans rfl,(aa O 0).trans rfl,(aa O 1).trans rfl⟩;have s:=Z t;have au:=Z H;clear t H G;go_wp2_with fail
   refine wT (λw'=>w'.cell? ⟨c,1,Y⟩=X (em (X b))/\w'.cell? ⟨w.heap.size,0,Y⟩=X (J U f)/\w'.cell? ⟨w.heap.size,1,Y⟩=X (J U g)) 12 ?_;refine Qb [0,4,5,6,1,2,3] y (λw' h=>h) ?_;refine Dp 7 λK j=>?_;refine bp rfl a8 ?_;have u:=And.intro ((o.cell (p:=⟨c,1,Y⟩) L).trans y.1) (And.intro ((o.cell (p:=⟨w.heap.size,0,Y⟩) E).trans y.2.1) ((o.cell (p:=⟨w.heap.size,1,Y⟩) E).trans y.2.2));generalize gi m.drew b (.map ax av)=w4 at *;refine j _ _ (λ_=>u) ?_;clear j K;go_simp;refine Qb [8] u (λw' h=>h) ?_
   refine Dp 9 λK j=>?_;obtain ⟨r,a9,a6,A⟩:=ac w4 (J U n) a4;refine aZ rfl a9 ?_;have I:=And.intro ((A.cell (p:=⟨c,1,Y⟩) L).trans u.1) (And.intro ((A.cell (p:=⟨w.heap.size,0,Y⟩) E).trans u.2.1) ((A.cell (p:=⟨w.heap.size,1,Y⟩) E).trans u.2.2));refine j _ _ (λ_=>I) ?_;clear j K;go_simp;refine Ds 10 I ?_;refine Qb [11] I (λw' h=>h) ?_
   have z:aq b m r:=(aq.trans ⟨o.os,o.tape,o.output,o.size,o.block⟩ A);have a5:am recB r b ((insL ltRK d.ds (f,g) n).map λp=>(p.1,hG U p.2)):=a6.perm (jj aN s.ok.ok.ds (λ_ v=>hG U v) (f,g) n);have hF:=s.put2 z a5 (ao C.o);have c3:r.cell? ⟨c,3,Y⟩=X kn:=(z.cell (p:=⟨c,3,Y⟩) L).trans ((aa s.blk 3).trans rfl);have f3:r.frozen? ⟨c,3,Y⟩=false:=(z.frozen (p:=⟨c,3,Y⟩) L).trans (ab s.blk 3);have HF:=Z hF;have al:=Z z;clear hF y u I a6 a5 a9 A o ac a8 a4 z;refine Dl 12 ?_;go_wp2_with fail
   go_ret;rw [a2.o,if_pos C.o];refine ⟨rfl,l,⟨_,_,_,_,HF.o⟩,?_⟩;have aC:ah F w F i.drew:=ah.of_below a1.drew;have aS:ah F i.drew l m:=au.o;have aT:ah l m l r:=ah.of_only al.o (s.f2 b rfl);have b2:ah l r l (r.setCell ⟨c,3,Y⟩ (ej Y)):=ah.of_only (aq.setCell (aq.refl c r) 3 _) s.fc;exact ((aC.trans aS).trans aT).trans b2
 · have C:=Z hx;have b6:((dG d (f,g) n)==0)=false:=by simpa using hx
   generalize dG d (f,g) n=x at *;go_enter func27,ntmps27;go_wp2;go_region;go_wp2_with (go_at_call 56;((with_reducible refine gb (N.o _) ?_);rintro e w2 ⟨rfl,rfl⟩))
   go_ret;rw [a2.o,if_neg C.o];exact ⟨rfl,F,⟨_,_,_,_,HH.below (eQ _ i).drew⟩,ah.of_below a1.drew⟩
theorem q36 (a b c d:Int) (w:fr):(binOp .eql 36 (.agg #[J U a,J U b]) (.agg #[J U c,J U d])).run prog w= .ok (e6 (decide ((a,b)=(c,d)))) w:=by
 by_cases h1:a=c
 · by_cases h2:b=d
   · subst h1;subst h2;go_simp
   · subst h1;go_simp
 · go_simp
theorem B8 (a:Int) (c:Bool) (b:Int) (d:Bool) (w:fr):(binOp .eql 139 (.agg #[J U a,e6 c]) (.agg #[J U b,e6 d])).run prog w= .ok (e6 (decide (a=b)&&decide (c=d))) w:=by
 by_cases h1:a=b
 · subst h1;cases c<;>cases d<;>go_simp
 · go_simp
theorem cU {w:fr} {b t:Nat} {x y:fy} (h:w.heap[b]? =X (e8 #[x,y] t (0,0))):w.cell? ⟨b,0,Y⟩=X x/\w.cell? ⟨b,1,Y⟩=X y:=⟨(aa h 0).trans rfl,(aa h 1).trans rfl⟩
theorem m8 {w:fr} {b t:Nat} {x y z u:fy} (h:w.heap[b]? =X (e8 #[x,y,z,u] t (0,0))):w.cell? ⟨b,0,Y⟩=X x/\w.cell? ⟨b,1,Y⟩=X y/\w.cell? ⟨b,2,Y⟩=X z/\w.cell? ⟨b,3,Y⟩=X u:=⟨(aa h 0).trans rfl,(aa h 1).trans rfl,(aa h 2).trans rfl,(aa h 3).trans rfl⟩
def eh (d:aE) (p:PK) (n:Int) (j:Bool):Int:=aY (findK d.ps p).isSome (decide (((findK d.ps p).getD (0,false)).1=n)&&decide (((findK d.ps p).getD (0,false)).2=j)) ((findK d.ps p).getD (0,false)).1 n d.ps.length
theorem jX (d:aE) (a b:RK) (n:Int) (j:Bool) (c:a≠b):decideC d a b n j=if eh d (pairK a b) n j=0 then ({d with ps:=insL ltPK d.ps (pairK a b) (n,j)},0) else (d,eh d (pairK a b) n j):=by
 unfold decideC eh;rw [if_neg c];cases findK d.ps (pairK a b) with
 |none=>simp only [hJ,hK];rw [lI (decide (0=n)&&decide (false=j))]
 |some m=>rfl
theorem pj {a b:RK} (c:rkOk a) (d:rkOk b):pkOk (pairK a b):=by
 unfold pairK;split
 · exact ⟨d,c⟩
 · exact ⟨c,d⟩
theorem zL {a b:RK} (h:a≠b):ltRK (pairK a b).1 (pairK a b).2=true:=by
 unfold pairK;split
 · assumption
 · rename_i d;rcases aN.tot a b h with c|c
   · exact c
   · exact absurd c d
theorem bf.decide {d:aE} (h:bf d) {a b:RK} {n:Int} {j:Bool} (e:a≠b) (c:rkOk a) (f:rkOk b) (i:i64B n) (k:eh d (pairK a b) n j=0):bf {d with ps:=insL ltPK d.ps (pairK a b) (n,j)}:=by
 refine ⟨⟨h.ok.vs,h.ok.ds,eR df h.ok.ps _ _,dv df h.ok.ps h.ok.apart (zL e)⟩,h.vlen,h.dlen,?_,h.right,h.vnum,h.dnum,dv df h.ok.ps h.pnum i,h.vkey,h.dkey,dv df h.ok.ps h.pkey (pj c f)⟩;exact pL df h.ok.ps _ _ h.plen λg=>fT k g
theorem dw.put3 {F:Nat->Prop} {w j:fr} {c a b e:Nat} {E:fy} {d:aE} {ps:List (PK×(Int×Bool))} (h:dw F w c (X a) (X b) (X e) E d) (q:aq e w j) (i:am pairB j e (ps.map λp=>(p.1,ff p.2))) (C:bf {d with ps:=ps}):
 dw F (j.setCell ⟨c,3,Y⟩ (ej Y)) c (X a) (X b) (X e) (ej Y) {d with ps:=ps}:=by
 have z:c≠b:=λe=>(aj (show am recB w b _ from h.ds) h.blk) e.symm;have y:c≠a:=λe=>by obtain ⟨ps,_,g,_⟩:=h.vs;exact (aj (show am recB w a _ from g) h.blk) e.symm
 have u:c≠e:=λr=>(aj (show am pairB w e _ from h.ps) h.blk) r.symm;rcases h.one with ⟨f,_⟩|⟨G,H,r,f,g,l,x,s,t⟩
 · cases f
 injection f with f;injection g with g;injection l with l
 subst f;subst g;subst l;have o:∀k,k≠c->k≠e->(j.setCell ⟨c,3,Y⟩ (ej Y)).heap[k]? =w.heap[k]? :=λk f g=>(fp _ _ _ _ f).trans (q.block k g);have D:(j.setCell ⟨c,3,Y⟩ (ej Y)).heap.size=w.heap.size:=by rw [gp,q.size]
 refine ⟨?_,h.vs.step (λm i=>by injection i with i;subst i;exact o _ (ht y) s) (λk v=>o k v.2.1 (λe=>v.2.2.2.2 (by rw [e]))) (by omega),?_,?_, .inl rfl,h.fc,h.f1,h.f2,h.f3, .inr ⟨a,b,e,rfl,rfl,rfl,x,s,t⟩,λk A=>by rw [D];exact h.lt k A,C⟩
 · exact an ((q.block c u).trans h.blk) 3 (ej Y)
 · exact am.block (show am recB w b _ from h.ds) (o b (ht z) t)
 · exact i.block (fp _ _ _ _ (ht u))
theorem nY (F:Nat->Prop) (w:fr) (c:Nat) (d:aE) (h:bL F w c d) (a b:RK) (n:Int) (j:Bool) (ha:rkOk a) (D:rkOk b) (hn:i64B n):
 gq prog 76 #[ej (X ⟨c,0,Y⟩),recK a,recK b,ff (n,j)] w λe w'=>e=e5 (J U (decideC d a b n j).2)/\∃I,bL I w' c (decideC d a b n j).1/\ah F w I w':=by
 by_cases hab:a=b
 · have HE:Hid (decideC d a b n j=(d,1)):=by unfold Hid decideC;rw [if_pos hab]
   subst hab;obtain ⟨g,i⟩:=a;unfold recK ff;dsimp only;have HB:Hid (∀o o' d3,Bw w (((w.alloc o).alloc o').alloc d3)):=λo o' d3=>(((eQ _ w).alloc (er _) o).alloc (by simp) o').alloc (by simp;omega) d3;have HH:=Z h;clear h;go_enter func76,ntmps76;go_wp2;go_ret;rw [HE.o];exact ⟨rfl,F,HH.below (HB _ _ _),ah.of_below (HB _ _ _)⟩
 have b6:=Z (jX d a b n j hab);have cb:Hid (eh d (pairK a b) n j=0->bf {d with ps:=insL ltPK d.ps (pairK a b) (n,j)}):=by obtain ⟨_,_,_,_,h⟩:=h;exact h.ok.decide hab ha D hn
 have bb:pkOk (pairK a b):=pj ha D;have b8:Hid (pairK a b=if ltRK b a then (b,a) else (a,b)):=rfl;obtain ⟨m1,m2,C,kn,h⟩:=h;obtain ⟨g,i⟩:=a;obtain ⟨l,q⟩:=b;have cg:(br (l,q) (g,i)<0)↔ltRK (l,q) (g,i)=true:=eL _ _;have e1:decide ((g,i)=(l,q))=false:=decide_eq_false hab;have HC:Hid (∀W,gq prog 49 #[.agg #[J U l,J U q], .agg #[J U g,J U i]] W λe w'=>e=e5 (J U (br (l,q) (g,i)))/\bo W w'):=λW=>eV (l,q) (g,i) W;unfold recK ff;dsimp only;have e3:=λw=>q36 g i l q w;rw [e1] at e3;have e4:=B8;obtain ⟨f,bO⟩:=Qe ((((w.alloc (e8 #[J U g,J U i] 36)).alloc (e8 #[J U l,J U q] 36)).alloc (e8 #[J U n,e6 j] 139)));have aS:Bw w f:=by rw [<- bO];exact (((eQ _ w).alloc (er _) _).alloc (by simp) _).alloc (by simp;omega) _
 have dc:f.heap.size=w.heap.size+3:=by rw [<- bO];simp
 have cc:f.heap[w.heap.size]? =X (e8 #[J U g,J U i] 36 (0,0)):=by rw [<- bO,fl _ _ _ (by simp;omega),fl _ _ _ (by simp)];exact es w _
 have cd:f.heap[w.heap.size+1]? =X (e8 #[J U l,J U q] 36 (0,0)):=by rw [<- bO,fl _ _ _ (by simp)];have:=es (w.alloc (e8 #[J U g,J U i] 36)) (e8 #[J U l,J U q] 36);rwa [fz] at this
 have d7:f.heap[w.heap.size+2]? =X (e8 #[J U n,e6 j] 139 (0,0)):=by rw [<- bO];have:=es ((w.alloc (e8 #[J U g,J U i] 36)).alloc (e8 #[J U l,J U q] 36)) (e8 #[J U n,e6 j] 139);rwa [fz,fz] at this
 have x0:f.cell? ⟨w.heap.size,0,Y⟩=X (J U g):=(aa cc 0).trans rfl;have x1:f.cell? ⟨w.heap.size,1,Y⟩=X (J U i):=(aa cc 1).trans rfl;have y0:f.cell? ⟨w.heap.size+1,0,Y⟩=X (J U l):=(aa cd 0).trans rfl;have y1:f.cell? ⟨w.heap.size+1,1,Y⟩=X (J U q):=(aa cd 1).trans rfl;have HH:=Z (h.below aS);have di:=Z cc;have dk:=Z cd;have dn:=Z d7;have d4:=Z aS;have b9:=Z dc;have bk:=Z h.lt;obtain ⟨Wp,cx⟩:=Qe (f.alloc (e8 #[J U g,J U i,J U l,J U q] 134));have da:Bw f Wp:=by rw [<- cx];exact (eQ _ f).alloc (er _) _
 have dd:Wp.heap.size=f.heap.size+1:=by rw [<- cx];simp
 have d8:Wp.heap[f.heap.size]? =X (e8 #[J U g,J U i,J U l,J U q] 134 (0,0)):=by rw [<- cx];exact es f _
 have dr:=Z d8;have ds:=Z da;have dy:=Z dd
 have b7:Hid (∀H,bo Wp H->H.heap[f.heap.size]? =X (e8 #[J U g,J U i,J U l,J U q] 134 (0,0))/\H.heap[w.heap.size]? =X (e8 #[J U g,J U i] 36 (0,0))/\H.heap[w.heap.size+1]? =X (e8 #[J U l,J U q] 36 (0,0))/\
  H.heap[w.heap.size+2]? =X (e8 #[J U n,e6 j] 139 (0,0))/\dw F H c m1 m2 C kn d/\Bw w H):=λH hg=>by
  have D:=hg.below
  have R:=b9.o
  have T:=dy.o
  have a9:Bw f H:=btr ds.o D (by omega)
  exact ⟨(D.block _ (by omega)).trans dr.o,(a9.block _ (by omega)).trans di.o,(a9.block _ (by omega)).trans dk.o,(a9.block _ (by omega)).trans dn.o,HH.o.below a9,btr d4.o a9 d4.o.size⟩
 clear h aS cc cd d7 dc hab da dd d8;by_cases hlt:ltRK (l,q) (g,i)=true
 · have e0:br (l,q) (g,i)<0:=cg.2 hlt;rw [if_pos hlt] at b8;rw [b8.o] at bb b6 cb;generalize br (l,q) (g,i)=cm at *;clear hlt cg b8;obtain ⟨v0,v1⟩:=cU (b7 Wp (bo.refl _)).2.1;obtain ⟨v2,v3⟩:=cU (b7 Wp (bo.refl _)).2.2.1;go_enter func76,ntmps76;go_wp2_with (go_at_call 49;go_loud (((with_reducible refine gb (HC.o _) ?_);rintro e H ⟨rfl,c1⟩;obtain ⟨g0,g1,g2,g3,g4,g5⟩:=b7.o _ c1;obtain ⟨z0,z1⟩:=cU g1;obtain ⟨z2,z3⟩:=cU g2;obtain ⟨p0,p1,p2,p3⟩:=m8 g0;have f0:=ab g0 0;have f1:=ab g0 1;have f2:=ab g0 2;have f3:=ab g0 3;have G0:=Z g0;have G3:=Z g3;have G4:=Z g4;have G5:=Z g5;clear g0 g1 g2 g3 g4 g5 c1)))
   have a5:Hid ((((((H.setCell ⟨f.heap.size,0,Y⟩ (J U l)).setCell ⟨f.heap.size,1,Y⟩ (J U q)).setCell ⟨f.heap.size,2,Y⟩ (J U g)).setCell ⟨f.heap.size,3,Y⟩ (J U i))).heap[f.heap.size]? =X (e8 #[J U l,J U q,J U g,J U i] 134 (0,0))):=an (an (an (an G0.o 0 (J U l)) 1 (J U q)) 2 (J U g)) 3 (J U i);have av:Hid (aq f.heap.size H ((((H.setCell ⟨f.heap.size,0,Y⟩ (J U l)).setCell ⟨f.heap.size,1,Y⟩ (J U q)).setCell ⟨f.heap.size,2,Y⟩ (J U g)).setCell ⟨f.heap.size,3,Y⟩ (J U i))):=((((aq.refl _ H).setCell 0 _).setCell 1 _).setCell 2 _).setCell 3 _;generalize ((((H.setCell ⟨f.heap.size,0,Y⟩ (J U l)).setCell ⟨f.heap.size,1,Y⟩ (J U q)).setCell ⟨f.heap.size,2,Y⟩ (J U g)).setCell ⟨f.heap.size,3,Y⟩ (J U i))=s at *;have G:Hid (dw F s c m1 m2 C kn d):=G4.o.step (λk hf=>av.o.block k (λe=>by have:=bk.o k hf;have:=b9.o;omega)) (by rw [av.o.size];exact er _);have ad:Hid (s.heap[w.heap.size+2]? =X (e8 #[J U n,e6 j] 139 (0,0))):=(av.o.block _ (by have:=b9.o;omega)).trans G3.o;have ac:Hid (Bw w s):=G5.o.trans (av.o.below (by have:=b9.o;omega));clear z0 z1 z2 z3 p0 p1 p2 p3 f0 f1 f2 f3 x0 x1 y0 y1 v0 v1 v2 v3;have b3:=λty=>bW.len (G.ps) underlying115 ty;rw [gn] at b3;have au:Hid (∀W,(∀m,C=X m->W.heap[m]? =s.heap[m]?)->(gz 115 (.map C) (.agg #[J U l,J U q,J U g,J U i]) true).run prog W= .ok (.tuple #[.agg #[J U ((findK d.ps ((l,q),g,i)).getD (0,false)).1,e6 ((findK d.ps ((l,q),g,i)).getD (0,false)).2],e6 (findK d.ps ((l,q),g,i)).isSome]) W):=λW hW=>by have:=bW.look_ok (w:=W) (G.ps.block hW) underlying115 fI ((l,q),g,i) bb;rw [dY d.ps ff] at this;refine Eq.trans this ?_;cases findK d.ps ((l,q),g,i)<;>rfl
   have HX:Hid (eh d ((l,q),g,i) n j=aY (findK d.ps ((l,q),g,i)).isSome (decide (((findK d.ps ((l,q),g,i)).getD (0,false)).1=n)&&decide (((findK d.ps ((l,q),g,i)).getD (0,false)).2=j)) ((findK d.ps ((l,q),g,i)).getD (0,false)).1 n d.ps.length):=rfl;generalize (findK d.ps ((l,q),g,i)).isSome=there at *;generalize (findK d.ps ((l,q),g,i)).getD (0,false)=ov at *;obtain ⟨o1,o2⟩:=ov;dsimp only at au HX;have dx:Hid (d.ps.length=d.ps.length):=rfl;generalize hmany:d.ps.length=many at b3 HX;have HN:Hid (∀W,gq prog 56 #[e6 there,e6 (decide (o1=n)&&decide (o2=j)),J U o1,J U n,J U many] W λe w'=>e=e5 (J U (eh d ((l,q),g,i) n j))/\W=w'):=λW=>by rw [HX.o];exact gH _ _ _ _ _ W
   have ch:=Z hmany;clear hmany;obtain ⟨p0,p1,p2,p3⟩:=m8 a5.o
   have y:s.drew.cell? ⟨c,2,Y⟩=X (.map C)/\s.drew.cell? ⟨f.heap.size,0,Y⟩=X (J U l)/\s.drew.cell? ⟨f.heap.size,1,Y⟩=X (J U q)/\s.drew.cell? ⟨f.heap.size,2,Y⟩=X (J U g)/\s.drew.cell? ⟨f.heap.size,3,Y⟩=X (J U i)/\(∀m,C=X m->s.drew.heap[m]? =s.heap[m]?):=
    ⟨(aa G.blk 2).trans rfl,p0,p1,p2,p3,λ_ _=>rfl⟩
   clear p0 p1 p2 p3
   have al:Hid (∀W,Bw s W->W.cell? ⟨c,2,Y⟩=X (.map C)/\W.cell? ⟨f.heap.size,0,Y⟩=X (J U l)/\W.cell? ⟨f.heap.size,1,Y⟩=X (J U q)/\W.cell? ⟨f.heap.size,2,Y⟩=X (J U g)/\W.cell? ⟨f.heap.size,3,Y⟩=X (J U i)/\(∀m,C=X m->W.heap[m]? =s.heap[m]?)):=λW D=>
    ⟨ep D _ _ y.1,ep D _ _ y.2.1,ep D _ _ y.2.2.1,ep D _ _ y.2.2.2.1,ep D _ _ y.2.2.2.2.1,λm hm=>D.block m (G.lt m (G.f3 m hm))⟩
   refine wT (λW=>W.cell? ⟨c,2,Y⟩=X (.map C)/\W.cell? ⟨f.heap.size,0,Y⟩=X (J U l)/\W.cell? ⟨f.heap.size,1,Y⟩=X (J U q)/\W.cell? ⟨f.heap.size,2,Y⟩=X (J U g)/\W.cell? ⟨f.heap.size,3,Y⟩=X (J U i)/\(∀m,C=X m->W.heap[m]? =s.heap[m]?)) 11 ?_;refine Qb [0,4,1,2,3] y (λw' h=>h) ?_;refine tk 5 ?_ rfl y ?_ ?_;rotate_left;intro w' h;obtain ⟨V,R,T,h3,h4,M⟩:=h;have hl:=au w' M;go_simp;rfl;try go_simp
   refine Qb [6,7,8] y (λw' h=>h) ?_;refine Dp 9 λK r=>?_;go_simp;have c0:∀o,Bw s (s.drew.alloc o):=λo=>(eQ _ s).drew.alloc (er _) o;refine r _ _ (λ_=>al _ (c0 _)) ?_;clear r K;refine Dp 10 λK r=>?_;go_simp;have aT:∀o,Bw s (s.alloc o).drew:=λo=>((eQ _ s).alloc (er _) o).drew;refine r _ _ (λ_=>al _ (aT _)) ?_;clear r K;refine Dl 11 ?_;obtain ⟨z,a8⟩:=Qe ((s.alloc (e8 #[J U o1,e6 o2] 139)).drew);have bA:z.heap[s.heap.size]? =X (e8 #[J U o1,e6 o2] 139 (0,0)):=by rw [<- a8];exact es s _
   have a3:Bw s z:=by rw [<- a8];exact aT _
   have a4:=Z (G.below a3);have d9:=(a3.block _ (ae a5.o)).trans a5.o;have ay:=(a3.block _ (ae ad.o)).trans ad.o;have bc:Hid (Bw w z):=btr ac.o a3 ac.size;have cz:=λty=>bW.len (w:=z.drew) (a4.ps.block (λ_ _=>rfl)) underlying115 ty;rw [gn,ch.o] at cz;rw [a8];clear b3 y al c0 aT a8 a3 au G ad ac a5 av;obtain ⟨s0,s1⟩:=cU bA;obtain ⟨r0,r1⟩:=cU ay;have dz:z.cell? ⟨c,2,Y⟩=X (.map C):=(aa a4.blk 2).trans rfl;have d5:=Z d9;have bs:=Z ay;clear bA ay d9;go_wp2_with fail
   refine wT (λW=>W=z.drew) 14 ?_;refine Qb [0,1,2,4,6,8,3,5,7,9,10,11] rfl (λw' h=>h) ?_;refine Ds 12 rfl ?_;refine Dp 13 λK r=>?_;go_simp;go_at_call 56;refine (HN _).mono ?_;rintro e w9 ⟨rfl,rfl⟩;refine r _ _ (λ_=>rfl) ?_;clear r K;refine Dl 14 ?_;by_cases hx:eh d ((l,q),g,i) n j=0
   · have a6:=Z hx;rw [hx];go_wp2_with (go_at_call 57;((with_reducible refine gb (gT (a4.o.below (eQ _ z).drew)) ?_);rintro e A ⟨rfl,I,ma,mb,u,N,y⟩))
     have cQ:¬F f.heap.size:=λhf=>by have:=bk.o _ hf;have:=b9.o;omega
     have cP:¬F (w.heap.size+2):=λhf=>by have:=bk.o _ hf;omega
     have cv:f.heap.size<z.drew.heap.size:=ae d5.o;have cs:w.heap.size+2<z.drew.heap.size:=ae bs.o;have cy:=(y.block _ cv cQ).trans d5.o;have ax:=(y.block _ cs cP).trans bs.o;have a0:am pairB A u _:=N.ps;obtain ⟨st,bw,bt,c7,bY,c5,ca⟩:=am.entry (w:=A.drew) (am.drew a0) tQ underlying115 fI ((l,q),g,i) bb (by rw [gn];have:=N.ok.plen;unfold maxLen;omega);have b0:c≠u:=λe=>(aj a0 N.blk) e.symm;have cu:f.heap.size≠u:=λe=>(aj a0 cy) e.symm;have cq:w.heap.size+2≠u:=λe=>(aj a0 ax) e.symm;have ao:Hid (∀W,aq u A W->W.cell? ⟨c,2,Y⟩=X (em (X u))/\W.cell? ⟨f.heap.size,0,Y⟩=X (J U l)/\W.cell? ⟨f.heap.size,1,Y⟩=X (J U q)/\W.cell? ⟨f.heap.size,2,Y⟩=X (J U g)/\W.cell? ⟨f.heap.size,3,Y⟩=X (J U i)/\W.cell? ⟨w.heap.size+2,0,Y⟩=X (J U n)/\W.cell? ⟨w.heap.size+2,1,Y⟩=X (e6 j)):=λW ho=>by obtain ⟨p0,p1,p2,p3⟩:=m8 ((ho.block _ cu).trans cy);obtain ⟨r0,r1⟩:=cU ((ho.block _ cq).trans ax);exact ⟨(aa ((ho.block c b0).trans N.blk) 2).trans rfl,p0,p1,p2,p3,r0,r1⟩
     have b4:aq u A A.drew:=(aq.refl u A).drew;have bB:=ao _ b4;have L:=Z N;have cp:=Z y;clear N y a0 cy ax;go_wp2_with fail
     refine wT (λW=>W.cell? ⟨c,2,Y⟩=X (em (X u))/\W.cell? ⟨f.heap.size,0,Y⟩=X (J U l)/\W.cell? ⟨f.heap.size,1,Y⟩=X (J U q)/\W.cell? ⟨f.heap.size,2,Y⟩=X (J U g)/\W.cell? ⟨f.heap.size,3,Y⟩=X (J U i)/\W.cell? ⟨w.heap.size+2,0,Y⟩=X (J U n)/\W.cell? ⟨w.heap.size+2,1,Y⟩=X (e6 j)) 12 ?_;refine Qb [0,4,5,6,1,2,3] bB (λw' h=>h) ?_;refine Dp 7 λK r=>?_;refine bp rfl c7 ?_;have b5:aq u A (gi A.drew u (.map bw bt)):=b4.trans c5;have aC:=ao _ b5;generalize gi A.drew u (.map bw bt)=w4 at *;refine r _ _ (λ_=>aC) ?_;clear r K;go_simp;refine Qb [8] aC (λw' h=>h) ?_
     refine Dp 9 λK r=>?_;obtain ⟨E,c9,c4,c6⟩:=ca w4 (.agg #[J U n,e6 j]) bY;refine aZ rfl c9 ?_;have O:aq u A E:=b5.trans c6;have a7:=ao _ O;refine r _ _ (λ_=>a7) ?_;clear r K;go_simp;refine Ds 10 a7 ?_;refine Qb [11] a7 (λw' h=>h) ?_
     have c2:am pairB E u ((insL ltPK d.ps ((l,q),g,i) (n,j)).map λp=>(p.1,ff p.2)):=c4.perm (jj df L.ok.ok.ps (λ_ v=>ff v) ((l,q),g,i) (n,j));have hF:=L.put3 O c2 (cb a6.o);have c3:E.cell? ⟨c,3,Y⟩=X kn:=(O.cell (p:=⟨c,3,Y⟩) b0).trans ((aa L.blk 3).trans rfl);have f3:E.frozen? ⟨c,3,Y⟩=false:=(O.frozen (p:=⟨c,3,Y⟩) b0).trans (ab L.blk 3);have HF:=Z hF;have cl:=Z O;clear hF bB aC a7 c4 c2 c9 c6 c5 ca c7 bY O b4 b5;refine Dl 12 ?_;go_wp2_with fail
     go_ret;rw [b6.o,if_pos a6.o];refine ⟨rfl,I,⟨_,_,_,_,HF.o⟩,?_⟩;have d0:ah F w F z.drew:=ah.of_below bc.drew;have d1:ah I A I E:=ah.of_only cl.o (L.f3 u rfl);have d2:ah I E I (E.setCell ⟨c,3,Y⟩ (ej Y)):=ah.of_only (aq.setCell (aq.refl c E) 3 _) L.fc;exact ((d0.trans cp.o).trans d1).trans d2
   · have a6:=Z hx;have e2:((eh d ((l,q),g,i) n j)==0)=false:=by simpa using hx
     generalize eh d ((l,q),g,i) n j=x at *;go_wp2_with fail
     go_ret;rw [b6.o,if_neg a6.o];exact ⟨rfl,F,⟨_,_,_,_,a4.below (eQ _ z).drew⟩,ah.of_below bc.drew⟩
 · have e0:¬(br (l,q) (g,i)<0):=λhh=>hlt (cg.1 hh);rw [if_neg hlt] at b8;rw [b8.o] at bb b6 cb;generalize br (l,q) (g,i)=cm at *;clear hlt cg b8;obtain ⟨v0,v1⟩:=cU (b7 Wp (bo.refl _)).2.1;obtain ⟨v2,v3⟩:=cU (b7 Wp (bo.refl _)).2.2.1;go_enter func76,ntmps76;go_wp2_with (go_at_call 49;go_loud (((with_reducible refine gb (HC.o _) ?_);rintro e s ⟨rfl,c1⟩;obtain ⟨g0,g1,g2,g3,g4,g5⟩:=b7.o _ c1;have a5:=Z g0;have ad:=Z g3;have G:=Z g4;have ac:=Z g5;have av:=Z g5;clear g0 g1 g2 g3 g4 g5 c1)))
   clear x0 x1 y0 y1 v0 v1 v2 v3;have b3:=λty=>bW.len (G.ps) underlying115 ty;rw [gn] at b3;have au:Hid (∀W,(∀m,C=X m->W.heap[m]? =s.heap[m]?)->(gz 115 (.map C) (.agg #[J U g,J U i,J U l,J U q]) true).run prog W= .ok (.tuple #[.agg #[J U ((findK d.ps ((g,i),l,q)).getD (0,false)).1,e6 ((findK d.ps ((g,i),l,q)).getD (0,false)).2],e6 (findK d.ps ((g,i),l,q)).isSome]) W):=λW hW=>by have:=bW.look_ok (w:=W) (G.ps.block hW) underlying115 fI ((g,i),l,q) bb;rw [dY d.ps ff] at this;refine Eq.trans this ?_;cases findK d.ps ((g,i),l,q)<;>rfl
   have HX:Hid (eh d ((g,i),l,q) n j=aY (findK d.ps ((g,i),l,q)).isSome (decide (((findK d.ps ((g,i),l,q)).getD (0,false)).1=n)&&decide (((findK d.ps ((g,i),l,q)).getD (0,false)).2=j)) ((findK d.ps ((g,i),l,q)).getD (0,false)).1 n d.ps.length):=rfl;generalize (findK d.ps ((g,i),l,q)).isSome=there at *;generalize (findK d.ps ((g,i),l,q)).getD (0,false)=ov at *;obtain ⟨o1,o2⟩:=ov;dsimp only at au HX;have dx:Hid (d.ps.length=d.ps.length):=rfl;generalize hmany:d.ps.length=many at b3 HX;have HN:Hid (∀W,gq prog 56 #[e6 there,e6 (decide (o1=n)&&decide (o2=j)),J U o1,J U n,J U many] W λe w'=>e=e5 (J U (eh d ((g,i),l,q) n j))/\W=w'):=λW=>by rw [HX.o];exact gH _ _ _ _ _ W
   have ch:=Z hmany;clear hmany;obtain ⟨p0,p1,p2,p3⟩:=m8 a5.o
   have y:s.drew.cell? ⟨c,2,Y⟩=X (.map C)/\s.drew.cell? ⟨f.heap.size,0,Y⟩=X (J U g)/\s.drew.cell? ⟨f.heap.size,1,Y⟩=X (J U i)/\s.drew.cell? ⟨f.heap.size,2,Y⟩=X (J U l)/\s.drew.cell? ⟨f.heap.size,3,Y⟩=X (J U q)/\(∀m,C=X m->s.drew.heap[m]? =s.heap[m]?):=
    ⟨(aa G.blk 2).trans rfl,p0,p1,p2,p3,λ_ _=>rfl⟩
   clear p0 p1 p2 p3
   have al:Hid (∀W,Bw s W->W.cell? ⟨c,2,Y⟩=X (.map C)/\W.cell? ⟨f.heap.size,0,Y⟩=X (J U g)/\W.cell? ⟨f.heap.size,1,Y⟩=X (J U i)/\W.cell? ⟨f.heap.size,2,Y⟩=X (J U l)/\W.cell? ⟨f.heap.size,3,Y⟩=X (J U q)/\(∀m,C=X m->W.heap[m]? =s.heap[m]?)):=λW D=>
    ⟨ep D _ _ y.1,ep D _ _ y.2.1,ep D _ _ y.2.2.1,ep D _ _ y.2.2.2.1,ep D _ _ y.2.2.2.2.1,λm hm=>D.block m (G.lt m (G.f3 m hm))⟩
   refine wT (λW=>W.cell? ⟨c,2,Y⟩=X (.map C)/\W.cell? ⟨f.heap.size,0,Y⟩=X (J U g)/\W.cell? ⟨f.heap.size,1,Y⟩=X (J U i)/\W.cell? ⟨f.heap.size,2,Y⟩=X (J U l)/\W.cell? ⟨f.heap.size,3,Y⟩=X (J U q)/\(∀m,C=X m->W.heap[m]? =s.heap[m]?)) 11 ?_;refine Qb [0,4,1,2,3] y (λw' h=>h) ?_;refine tk 5 ?_ rfl y ?_ ?_;rotate_left;intro w' h;obtain ⟨V,R,T,h3,h4,M⟩:=h;have hl:=au w' M;go_simp;rfl;try go_simp
   refine Qb [6,7,8] y (λw' h=>h) ?_;refine Dp 9 λK r=>?_;go_simp;have c0:∀o,Bw s (s.drew.alloc o):=λo=>(eQ _ s).drew.alloc (er _) o;refine r _ _ (λ_=>al _ (c0 _)) ?_;clear r K;refine Dp 10 λK r=>?_;go_simp;have aT:∀o,Bw s (s.alloc o).drew:=λo=>((eQ _ s).alloc (er _) o).drew;refine r _ _ (λ_=>al _ (aT _)) ?_;clear r K;refine Dl 11 ?_;obtain ⟨z,a8⟩:=Qe ((s.alloc (e8 #[J U o1,e6 o2] 139)).drew);have bA:z.heap[s.heap.size]? =X (e8 #[J U o1,e6 o2] 139 (0,0)):=by rw [<- a8];exact es s _
   have a3:Bw s z:=by rw [<- a8];exact aT _
   have a4:=Z (G.below a3);have a9:=(a3.block _ (ae a5.o)).trans a5.o;have ay:=(a3.block _ (ae ad.o)).trans ad.o;have bc:Hid (Bw w z):=btr ac.o a3 ac.size;have cz:=λty=>bW.len (w:=z.drew) (a4.ps.block (λ_ _=>rfl)) underlying115 ty;rw [gn,ch.o] at cz;rw [a8];clear b3 y al c0 aT a8 a3 au G ad ac a5 av;obtain ⟨s0,s1⟩:=cU bA;obtain ⟨r0,r1⟩:=cU ay;have dz:z.cell? ⟨c,2,Y⟩=X (.map C):=(aa a4.blk 2).trans rfl;have d6:=Z a9;have bs:=Z ay;clear bA ay a9;go_wp2_with fail
   refine wT (λW=>W=z.drew) 14 ?_;refine Qb [0,1,2,4,6,8,3,5,7,9,10,11] rfl (λw' h=>h) ?_;refine Ds 12 rfl ?_;refine Dp 13 λK r=>?_;go_simp;go_at_call 56;refine (HN _).mono ?_;rintro e w9 ⟨rfl,rfl⟩;refine r _ _ (λ_=>rfl) ?_;clear r K;refine Dl 14 ?_;by_cases hx:eh d ((g,i),l,q) n j=0
   · have a6:=Z hx;rw [hx];go_wp2_with (go_at_call 57;((with_reducible refine gb (gT (a4.o.below (eQ _ z).drew)) ?_);rintro e A ⟨rfl,I,ma,mb,u,N,y⟩))
     have cQ:¬F f.heap.size:=λhf=>by have:=bk.o _ hf;have:=b9.o;omega
     have cP:¬F (w.heap.size+2):=λhf=>by have:=bk.o _ hf;omega
     have cv:f.heap.size<z.drew.heap.size:=ae d6.o;have cs:w.heap.size+2<z.drew.heap.size:=ae bs.o;have aS:=(y.block _ cv cQ).trans d6.o;have ax:=(y.block _ cs cP).trans bs.o;have a0:am pairB A u _:=N.ps;obtain ⟨st,bw,bt,c7,bY,c5,ca⟩:=am.entry (w:=A.drew) (am.drew a0) tQ underlying115 fI ((g,i),l,q) bb (by rw [gn];have:=N.ok.plen;unfold maxLen;omega);have b0:c≠u:=λe=>(aj a0 N.blk) e.symm;have cu:f.heap.size≠u:=λe=>(aj a0 aS) e.symm;have cq:w.heap.size+2≠u:=λe=>(aj a0 ax) e.symm;have ao:Hid (∀W,aq u A W->W.cell? ⟨c,2,Y⟩=X (em (X u))/\W.cell? ⟨f.heap.size,0,Y⟩=X (J U g)/\W.cell? ⟨f.heap.size,1,Y⟩=X (J U i)/\W.cell? ⟨f.heap.size,2,Y⟩=X (J U l)/\W.cell? ⟨f.heap.size,3,Y⟩=X (J U q)/\W.cell? ⟨w.heap.size+2,0,Y⟩=X (J U n)/\W.cell? ⟨w.heap.size+2,1,Y⟩=X (e6 j)):=λW ho=>by obtain ⟨p0,p1,p2,p3⟩:=m8 ((ho.block _ cu).trans aS);obtain ⟨r0,r1⟩:=cU ((ho.block _ cq).trans ax);exact ⟨(aa ((ho.block c b0).trans N.blk) 2).trans rfl,p0,p1,p2,p3,r0,r1⟩
     have b4:aq u A A.drew:=(aq.refl u A).drew;have bB:=ao _ b4;have L:=Z N;have cp:=Z y;clear N y a0 aS ax;go_wp2_with fail
     refine wT (λW=>W.cell? ⟨c,2,Y⟩=X (em (X u))/\W.cell? ⟨f.heap.size,0,Y⟩=X (J U g)/\W.cell? ⟨f.heap.size,1,Y⟩=X (J U i)/\W.cell? ⟨f.heap.size,2,Y⟩=X (J U l)/\W.cell? ⟨f.heap.size,3,Y⟩=X (J U q)/\W.cell? ⟨w.heap.size+2,0,Y⟩=X (J U n)/\W.cell? ⟨w.heap.size+2,1,Y⟩=X (e6 j)) 12 ?_;refine Qb [0,4,5,6,1,2,3] bB (λw' h=>h) ?_;refine Dp 7 λK r=>?_;refine bp rfl c7 ?_;have b5:aq u A (gi A.drew u (.map bw bt)):=b4.trans c5;have aC:=ao _ b5;generalize gi A.drew u (.map bw bt)=w4 at *;refine r _ _ (λ_=>aC) ?_;clear r K;go_simp;refine Qb [8] aC (λw' h=>h) ?_
     refine Dp 9 λK r=>?_;obtain ⟨E,c9,c4,c6⟩:=ca w4 (.agg #[J U n,e6 j]) bY;refine aZ rfl c9 ?_;have O:aq u A E:=b5.trans c6;have a7:=ao _ O;refine r _ _ (λ_=>a7) ?_;clear r K;go_simp;refine Ds 10 a7 ?_;refine Qb [11] a7 (λw' h=>h) ?_
     have c2:am pairB E u ((insL ltPK d.ps ((g,i),l,q) (n,j)).map λp=>(p.1,ff p.2)):=c4.perm (jj df L.ok.ok.ps (λ_ v=>ff v) ((g,i),l,q) (n,j));have hF:=L.put3 O c2 (cb a6.o);have c3:E.cell? ⟨c,3,Y⟩=X kn:=(O.cell (p:=⟨c,3,Y⟩) b0).trans ((aa L.blk 3).trans rfl);have f3:E.frozen? ⟨c,3,Y⟩=false:=(O.frozen (p:=⟨c,3,Y⟩) b0).trans (ab L.blk 3);have HF:=Z hF;have cl:=Z O;clear hF bB aC a7 c4 c2 c9 c6 c5 ca c7 bY O b4 b5;refine Dl 12 ?_;go_wp2_with fail
     go_ret;rw [b6.o,if_pos a6.o];refine ⟨rfl,I,⟨_,_,_,_,HF.o⟩,?_⟩;have d0:ah F w F z.drew:=ah.of_below bc.drew;have d1:ah I A I E:=ah.of_only cl.o (L.f3 u rfl);have d2:ah I E I (E.setCell ⟨c,3,Y⟩ (ej Y)):=ah.of_only (aq.setCell (aq.refl c E) 3 _) L.fc;exact ((d0.trans cp.o).trans d1).trans d2
   · have a6:=Z hx;have e2:((eh d ((g,i),l,q) n j)==0)=false:=by simpa using hx
     generalize eh d ((g,i),l,q) n j=x at *;go_wp2_with fail
     go_ret;rw [b6.o,if_neg a6.o];exact ⟨rfl,F,⟨_,_,_,_,a4.below (eQ _ z).drew⟩,ah.of_below bc.drew⟩
theorem sE (F:Nat->Prop) (w:fr) (c:Nat) (d:aE) (h:bL F w c d) (a b:RK) (n:Int) (r:rkOk a) (s:rkOk b) (t:i64B n):
 gq prog 39 #[ej (X ⟨c,0,Y⟩),recK a,recK b,J U n] w λe w'=>e=e5 (J U (decideC d a b n false).2)/\∃g,bL g w' c (decideC d a b n false).1/\ah F w g w':=by
 have i:∀o f,Bw w ((w.alloc o).alloc f):=λo f=>((eQ _ w).alloc (er _) o).alloc (by simp) f;have l:=Z (λo f=>nY F ((w.alloc o).alloc f) c d (h.below (i o f)) a b n false r s t);have k:=Z i;clear h i;obtain ⟨u,v⟩:=a;obtain ⟨x,y⟩:=b;unfold recK ff at *;dsimp only at *;go_enter func39,ntmps39;go_wp2_with (go_at_call 76;((with_reducible refine gb (l.o _ _) ?_);rintro e z ⟨rfl,j⟩;have m:=Z j;clear j))
 go_ret;obtain ⟨g,p,q⟩:=m.o;exact ⟨rfl,g,p,(ah.of_below (k _ _)).trans q⟩
theorem uV (F:Nat->Prop) (w:fr) (c:Nat) (d:aE) (h:bL F w c d) (a b:RK) (n:Int) (r:rkOk a) (s:rkOk b) (t:i64B n):
 gq prog 40 #[ej (X ⟨c,0,Y⟩),recK a,recK b,J U n] w λe w'=>e=e5 (J U (decideC d a b n true).2)/\∃g,bL g w' c (decideC d a b n true).1/\ah F w g w':=by
 have i:∀o f,Bw w ((w.alloc o).alloc f):=λo f=>((eQ _ w).alloc (er _) o).alloc (by simp) f;have l:=Z (λo f=>nY F ((w.alloc o).alloc f) c d (h.below (i o f)) a b n true r s t);have k:=Z i;clear h i;obtain ⟨u,v⟩:=a;obtain ⟨x,y⟩:=b;unfold recK ff at *;dsimp only at *;go_enter func40,ntmps40;go_wp2_with (go_at_call 76;((with_reducible refine gb (l.o _ _) ?_);rintro e z ⟨rfl,j⟩;have m:=Z j;clear j))
 go_ret;obtain ⟨g,p,q⟩:=m.o;exact ⟨rfl,g,p,(ah.of_below (k _ _)).trans q⟩
end
end Go.Proofs.YtjcimanddakkaaaGreatDoor
