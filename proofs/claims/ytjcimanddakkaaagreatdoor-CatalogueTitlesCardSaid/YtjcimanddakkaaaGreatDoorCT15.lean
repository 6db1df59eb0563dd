/- Lemmas. -/
import Derived.Test.YtjcimanddakkaaaGreatDoorCT14
import Derived.Test.YtjcimanddakkaaaGreatDoorCT20
import Derived.Deep.CutBlock
set_option maxRecDepth 100000
set_option maxHeartbeats 8000000
namespace Go.Proofs.YtjcimanddakkaaaGreatDoor
open Go.Value renaming bool→fn,map→fs,slice→hK,int→J,pointer→k3
open _root_.Option renaming some→X,none→Y
open Go.IntKind renaming u8→hN,i64→U
open Go.Obj renaming cells→jn
open Go.Ending renaming returned→k0
open Go.Lib renaming hid→Z
open Tryz
open Go.World renaming alloc_heap_new→ka
open Go.Calls renaming mono→kb
open _root_.Nat renaming le_add_right→kc,le_refl→kn,eq_zero_or_pos→ks,le_trans→k5
open Go.RowKit.Below renaming heap_alloc→kd,heap_setCell→kk,refl→kq
open Go renaming World→ko,Value→ky,Calls→ld
open Go.RowKit renaming Below→kt
open _root_.List renaming take_of_length_le→kx,length_append→kz,take_succ_eq_append_getElem→k4,length_take→k6,eq_nil_of_length_eq_zero→k7,filterMap_cons→k9
open _root_.Bool renaming and_eq_false_iff→k8
open Go.Value renaming bool→la
section
open Go.RowKit Go.Maps Go.Shelf
def tQ:eJ prog 9 Bs where
 kv s:=S s
 kl s:=.string s
 ok s:=s<=maxLen
 keyed:=string_keyed underlying9
 key s h:=by
  unfold keyOf
  rw[underlying9]
  simp only[mapKey,underlying9]
  rw[if_pos (by show s.toArray.size<=maxLen;simpa using h)]
 inj a b h:=by
  injection h with h
  have:=congrArg (λx:ByteArray=>x.data.toList) h
  simpa using this
def aU(w:ko)(b:Nat)(a:List Bs):Prop:=∃l:List Bs,an tQ w b (l.map λs=>(s,fn true))/\(∀s,s∈l↔s∈a)/\l.length<=a
theorem aU.block{w w':ko}{b:Nat}{a:List Bs}(h:aU w b a)(e:w'.heap[b]?=w.heap[b]?):aU w' b a:=by
 obtain⟨l,c,d⟩:=h;exact⟨l,c.block e,d⟩
theorem aU.alloc{w:ko}{b:Nat}{a:List Bs}(h:aU w b a)(o:Obj):aU (w.alloc o) b a:=by
 obtain⟨l,c,d⟩:=h;exact⟨l,c.alloc o,d⟩
theorem dE(w:ko):aU (w.alloc (.map #[] 0)) w []:=⟨[],an.made w,by simp,kn _⟩
theorem aU.lt{w:ko}{b:Nat}{a:List Bs}(h:aU w b a):b<w:=by obtain⟨l,c,_⟩:=h;exact c.lt
def co(lo:Nat)(w:ko)(v:ky)(r:aG):Prop:=∃(b n c:Nat)(a:Option Addr),v=.agg #[fs (X b),S (aN r.fields),hK a n c,(bx r.fields),J hN r.kind]/\lo<=b/\aU w b (booksR r.fields)/\
 w.ownsRow lo 9 1 (hK a n c) (bi r.fields).length ((bi r.fields).map λs=>S s)
theorem yY(l:List Bs)(k:Bs):∃a:List Bs,putL (l.map λs=>(s,la true)) k (fn true)=a.map (λs=>(s,la true))/\(∀s,s∈a↔s∈l∨s=k)/\a.length<=l+1:=by
 refine⟨l.filter (λs=> !decide (s=k))++[k],?_,λs=>?_,by have:=List.length_filter_le (λs=> !decide (s=k)) l;simp;omega⟩
 .unfold putL cK;rw[List.filter_map,List.map_append];rfl
 simp only[List.mem_append,List.mem_filter,List.mem_singleton,Bool.not_eq_true',decide_eq_false_iff_not];constructor
 .rintro(⟨h,_⟩|h)
  .exact .inl h
  exact .inr h
 rintro(h|h)
 .by_cases e:s=k
  .exact .inr e
  exact .inl ⟨h,e⟩
 exact .inr h
theorem mZ(a:List ag)(q:Nat)(h:q<a):booksR (a.take (q+1))=booksR (a.take q)++qK a[q]:=by
 unfold booksR;rw[k4 h,List.flatMap_append];simp
def bookS(T:Bs)(a:List cH):List Bs:=if T=dh then a.filterMap λs=>if s.code=97 then isbnR s.text else Y else[]
theorem il(f:ag):qK f=bookS f.tag f.subs:=rfl
theorem gD(T:Bs)(a:List cH)(j:Nat)(h:j<a):bookS T (a.take (j+1))=bookS T (a.take j)++(if T=dh/\a[j].code=97 then(isbnR a[j].text).toList else[]):=by
 unfold bookS;rw[k4 h,List.filterMap_append];by_cases hT:T=dh
 .simp only[hT,true_and];congr 1
  by_cases hc:a[j].code=97
  .rw[if_pos hc,k9,if_pos hc];cases isbnR a[j].text<;>rfl
  rw[if_neg hc,k9,if_neg hc];rfl
 simp[hT]
theorem fU(T:Bs)(a:List cH):(bookS T a).length<=a:=by
 unfold bookS;split
 .exact List.length_filterMap_le _ _
 simp
theorem yd(a:List ag)(h:∀f∈a,f.subs.length<=1000000):(booksR a).length<=a*1000000:=by
 induction a with
 |nil=>simp[booksR]
 |cons f a ih=> have d:=h f List.mem_cons_self;have b:=ih λg c=>h g (List.mem_cons_of_mem _ c);have e:=fU f.tag f.subs;unfold booksR at b ⊢;rw[List.flatMap_cons,kz,il,List.length_cons,Nat.succ_mul];omega
theorem dt(a:List ag)(q:Nat)(h:br a):(booksR (a.take q)).length<=1000000000000:=by
 have d:=yd (a.take q) λf c=>k5 (cr f) (h.2 f (List.mem_of_mem_take c));have b:(a.take q).length<=1000000:=by rw[k6];have:=h.1;omega
 have:=Nat.mul_le_mul_right 1000000 b;omega
theorem ev{s x:Bs}(h:isbnR s=X x):x.length<=13:=by
 unfold isbnR at h;dsimp only at h;split at h
 .rename_i a;injection h with h
  rw[<- h];simp only[kz,List.length_cons,List.length_nil,k6];omega
 split at h
 .rename_i a;injection h with h
  rw[<- h];omega
 cases h
structure OfS(lo:Nat)(w1:ko)(T B:Nat)(cells:Array ky)(W:ko)(bs:List Bs):Prop where
 b:kt lo w1 W
 t:W.heap[T]?=some (.cells cells 208 (0,0))
 k:aU W B bs
 lB:lo<=B
 lT:lo<=T
 sz:lo<=W
theorem OfS.below{lo:Nat}{w1:ko}{T B:Nat}{e:Array ky}{W c:ko}{d:List Bs}(h:OfS lo w1 T B e W d)(a:Bw W c):OfS lo w1 T B e c d:=
 ⟨h.b.trans (a.mono h.sz),(a.block _ (af h.t)).trans h.t,h.k.block (a.block _ h.k.lt),h.lB,h.lT,k5 h.sz a.size⟩
theorem OfS.ne{lo:Nat}{w1:ko}{T B:Nat}{b:Array ky}{W:ko}{a:List Bs}(h:OfS lo w1 T B b W a):B≠T:=by
 obtain⟨l,c,_⟩:=h.k;exact ak c h.t
theorem OfS.put{lo:Nat}{w1:ko}{T B:Nat}{d:Array ky}{W a:ko}{f e:List Bs}(h:OfS lo w1 T B d W f)(c:aF B W a)(g:aU a B e):OfS lo w1 T B d a e:=
 ⟨h.b.trans (c.below h.lB),(c.block _ (Ne.symm h.ne)).trans h.t,g,h.lB,h.lT,by rw[c.size];exact h.sz⟩
theorem OfS.same{lo:Nat}{w1:ko}{T B:Nat}{b:Array ky}{W:ko}{a c:List Bs}(h:OfS lo w1 T B b W a)(e:c=a):OfS lo w1 T B b W c:=e▸h
theorem oz{W:ko}{b B t:Nat}{c:Array ky}{a:List Bs}(f:aU W B a)(e:W.heap[b]?=X (jn c t (0,0))):b≠B:=by
 obtain⟨l,d,_⟩:=f;exact Ne.symm (ak d e)
theorem eI{w1 W:ko}{T B lo:Nat}{j k l m n a b c d e:ky}(h:W.heap[T]?=X (jn #[j,k,l,m,n] 208 (0,0))/\lo<=T)(g:aU W B []/\lo<=B)(p:kt lo w1 W)(f:ko)
 (o:f=((((W.setCell T a).setCell ⟨T,1,Y⟩ b).setCell ⟨T,2,Y⟩ c).setCell ⟨T,3,Y⟩ d).setCell ⟨T,4,Y⟩ e):
 f.heap[T]?=X (jn #[a,b,c,d,e] 208 (0,0))/\aU f B []/\(lo<=B/\lo<=T)/\kt lo w1 f:=by
 subst o;have i:aF T W (((((W.setCell T a).setCell ⟨T,1,Y⟩ b).setCell ⟨T,2,Y⟩ c).setCell ⟨T,3,Y⟩ d).setCell ⟨T,4,Y⟩ e):=(((((aF.refl T W).setCell 0 a).setCell 1 b).setCell 2 c).setCell 3 d).setCell 4 e;have q:B≠T:=Ne.symm (oz g.1 h.1);exact⟨(aA (aA (aA (aA (aA h.1 0 a) 1 b) 2 c) 3 d) 4 e).trans rfl,g.1.block (i.block _ q),⟨g.2,h.2⟩,p.trans (i.below h.2)⟩
theorem CO{w w1 wr u j:ko}{T B:Nat}{A:Array ky}{k l:UInt8}{i:List ag}{n:Bs}{r:Option Addr}{t:Nat}(h:OfS (w.heap.size+2) w1 T B A wr (booksR i))(v:Bw wr j)
 (o:j.ownsRow u 9 1 (.slice r (wordsR n).length t) (wordsR n).length ((wordsR n).map λs=>S s))(F:bi i=wordsR n)(H:w+2<=B/\w+2<=T)(x:Bw w wr)(G:T<u/\w.heap.size+2<=u)
 (W:ko)(a b c d e f:ky)(E:W=((((((j.setCell ⟨T,2,Y⟩ a).setCell ⟨w.heap.size+1,0,Y⟩ b).setCell ⟨w.heap.size+1,1,Y⟩ c).setCell ⟨w.heap.size+1,2,Y⟩ d).setCell ⟨w.heap.size+1,3,Y⟩ e).setCell ⟨w.heap.size+1,4,Y⟩ f)):
 co w W (.agg #[fs (X B),S (aN i),.slice r (wordsR n).length t,(bx i),J hN k]) ⟨k,l,i⟩/\Bw w W:=by
 subst E;have z:∀q,q≠T->q≠w+1->((((((j.setCell ⟨T,2,Y⟩ a).setCell ⟨w.heap.size+1,0,Y⟩ b).setCell ⟨w.heap.size+1,1,Y⟩ c).setCell ⟨w.heap.size+1,2,Y⟩ d).setCell ⟨w.heap.size+1,3,Y⟩ e).setCell ⟨w.heap.size+1,4,Y⟩ f).heap[q]?=j.heap[q]?:=λq C m=>by rw[kk _ _ _ _ m,kk _ _ _ _ m,kk _ _ _ _ m,kk _ _ _ _ m,kk _ _ _ _ m,kk _ _ _ _ C]
 refine⟨⟨B,_,t,r,rfl,by omega,?_,?_⟩,?_⟩
 .exact(h.k.block (v.block _ h.k.lt)).block (z B h.ne (by omega))
 .show World.ownsRow _ _ _ _ _ (bi i).length _;rw[F];refine aD (aj o λg y=>z g ?_ ?_) (by omega)
  .have:=(o.lt g y).1;omega
  have:=(o.lt g y).1;omega
 have D:Bw w j:=x.trans (v.mono x.size);exact(((((D.setCell (p:=⟨T,2,Y⟩) (by simp;omega) _).setCell (p:=⟨w.heap.size+1,0,Y⟩) (by simp) _).setCell (p:=⟨w.heap.size+1,1,Y⟩) (by simp) _).setCell (p:=⟨w.heap.size+1,2,Y⟩) (by simp) _).setCell (p:=⟨w.heap.size+1,3,Y⟩) (by simp) _).setCell (p:=⟨w.heap.size+1,4,Y⟩) (by simp) _
theorem CP(k l:UInt8)(x:ky)(r:List ag)(w:ko)(hs:ah 0 w w x r)(L:br r):
 ld prog 129 #[.agg #[J hN k,J hN l,x]] w λe w'=>∃v,e=k0 v/\co w w' v ⟨k,l,r⟩/\Bw w w':=by
 obtain⟨w1,b5⟩:=Qe ((w.alloc (jn #[J hN k,J hN l,x] 62)).alloc (jn #[fs Y,S [],hK Y 0 0,J U 0,J hN 0] 208));have hr:(w.alloc (jn #[J hN k,J hN l,x] 62)).heap.size=w+1:=by simp
 have az:Bw w w1:=by rw[<- b5];exact((kq _ w).alloc (kn _) _).alloc (by simp) _
 have hR:w1.heap[w.heap.size]?=some (jn #[J hN k,J hN l,x] 62 (0,0)):=by rw[<- b5,kd _ _ _ (by simp)];exact ka w _
 have hZ:w1.heap[w.heap.size+1]?=some (jn #[fs Y,S [],hK Y 0 0,J U 0,J hN 0] 208 (0,0)):=by rw[<- b5,<- hr];exact ka (w.alloc _) _
 have ht:w1.heap.size=w+2:=by rw[<- b5];simp
 have e8:Hid (∀W,Bw w W->ah 0 W W x r):=λW D=>(fk hs (kn _) D).mono (kn _) D.size;have hS:Hid (∀W,Bw w W->ah 0 w W x r):=λW D=>hs.kept (λg _ hg=>D.block g hg);have HT:Hid (∀W,Bw w W->ld prog 178 #[.agg #[J hN k,J hN l,x]] W λe w'=>e=k0 (S (aN r))/\Bw W w'):=λW D=>nW k l x r W (e8 W D) L;have HY:Hid (∀W,Bw w W->ld prog 179 #[.agg #[J hN k,J hN l,x]] W λe w'=>e=k0 (bx r)/\Bw W w'):=λW D=>yl k l x r W (e8 W D) L
 have HF:Hid (∀W,Bw w W->ld prog 181 #[.agg #[J hN k,J hN l,x],S [49,48,48]] W λe w'=>(∃v,e=k0 (.tuple #[v,fn (firstF r [49,48,48]).isSome])/\∃d,v=.agg #[S ((firstF r [49,48,48]).getD zeroF).tag,S ((firstF r [49,48,48]).getD zeroF).ind,S ((firstF r [49,48,48]).getD zeroF).data,d]/\aE 0 W w' d ((firstF r [49,48,48]).getD zeroF).subs)/\Bw W w'):=λW D=>
  oL k l x r [49,48,48] W (e8 W D) L.1
 have ax:Hid (((firstF r [49,48,48]).getD zeroF).subs.length<=1000000/\(∀s∈((firstF r [49,48,48]).getD zeroF).subs,s.text.length<=1000000)/\(textF (firstF r [49,48,48]) [97]).length<=1000000):=by
  refine⟨?_,?_,cM L _ _⟩
  .cases h:firstF r [49,48,48]with
   |none=>simp[zeroF]
   |some f=>exact k5 (cr f) (L.2 f (eY h))
  cases h:firstF r [49,48,48]with
  |none=>simp[zeroF]
  |some f=>exactλs hs=>iX (L.2 f (eY h)) hs
 have gp:=Z L;have fr:Hid (bi r=wordsR (textF (firstF r [49,48,48]) [97])):=rfl;obtain⟨a0,c0,rfl⟩:=hs.shape;have i1:=Z b5;have F:=Z az;have HR:=Z hR;have HZ:=Z hZ;have y:=Z ht;have iP:=L.1;clear hs L b5 az hR hZ ht hr;go_enter func129,ntmps129;go_upto_region 1 with fail;rw[i1.o];obtain⟨r0,r1,r2⟩:w1.cell? w=some (J hN k)/\w1.cell? ⟨w,1,Y⟩=some (J hN l)/\w1.cell? ⟨w,2,Y⟩=some (hK a0 r c0):=⟨(ab HR.o 0).trans rfl,(ab HR.o 1).trans rfl,(ab HR.o 2).trans rfl⟩;go_cut [3] (λt wx=>∃T B:Nat,t=.pointer T/\Hid (wx.heap[T]?=some (jn #[fs (some B),S (aN r),hK Y 0 0,(bx r),J hN k] 208 (0,0)))/\Hid (aU wx B [])/\Hid (w+2<=B/\w+2<=T)/\Hid (kt (w.heap.size+2) w1 wx))
 case first=>
  have a1:Hid (kt (w.heap.size+2) w1 w1.drew):=(kq _ w1).drew
  have HC:Hid (∀W,kt (w.heap.size+2) w1 W->W.cell? w=some (J hN k)/\W.cell? ⟨w,1,Y⟩=some (J hN l)/\W.cell? ⟨w,2,Y⟩=some (hK a0 r c0)):=λW D=>
   ⟨(ab ((D.block _ (by omega)).trans HR.o) 0).trans rfl,(ab ((D.block _ (by omega)).trans HR.o) 1).trans rfl,(ab ((D.block _ (by omega)).trans HR.o) 2).trans rfl⟩
  clear r0 r1 r2;refine wT (λW=>kt (w.heap.size+2) w1 W) 999 ?_;refine Qd [1,3,5,6] a1.o HC ?_;obtain⟨H,hh⟩:=Qe w1.drew;rw[hh]at a1 ⊢;clear hh;have iQ:= @run_makeMap prog;refine nd (i:=0) (j:=2) (k:=8) rfl rfl rfl (by kernel_rfl) rfl rfl rfl (λK o=>?_) (λK o=>?_) (λK o=>?_)
  .skip;go_simp;have b8:Hid (aU (H.alloc (.map #[] 0)) H []/\w.heap.size+2<=H):=⟨dE _,(by have:=y.o;have:=a1.o.size;omega)⟩;have aa:Hid (kt (w.heap.size+2) w1 (H.alloc (.map #[] 0))):=a1.o.alloc (by have:=y.o;have:=a1.o.size;omega) _;refine o _ _ (λ_=>aa.o) ?_;clear o K;generalize H.alloc (.map #[] 0)=W0 at*;refine cF (i:=2) (j:=8) rfl rfl (by kernel_rfl) rfl rfl (λK o=>?_) (λK o=>?_)
   .skip;go_simp;go_at_call 178;refine kb (HT _ (F.trans (aa.mono (kc _ _)))) ?_;rintro e W1⟨rfl,az⟩;have ac:=Z (btr aa.o az (by have:=y.o;have:=aa.o.size;omega));have b9:=Z (⟨b8.1.block (az.block _ b8.1.lt),b8.2⟩:aU W1 _ []/\_);clear az;refine o _ _ (λ_=>ac.o) ?_;clear o K;refine cF (i:=4) (j:=8) rfl rfl (by kernel_rfl) rfl rfl (λK o=>?_) (λK o=>?_)
    .skip;go_simp;go_at_call 179;refine kb (HY _ (F.trans (ac.mono (kc _ _)))) ?_;rintro e W2⟨rfl,cd⟩;have bl:=Z (btr ac.o cd (by have:=y.o;have:=ac.o.size;omega));have g6:=Z (⟨b9.1.block (cd.block _ b9.1.lt),b9.2⟩:aU W2 _ []/\_);clear cd;refine o _ _ (λ_=>bl.o) ?_;clear o K;refine Qc [7] bl.o ?_
     refine Dp 8 λK o=>?_;go_simp;have h0:Hid ((W2.alloc (jn #[fs Y,S [],hK Y 0 0,J U 0,J hN 0] 208)).heap[W2.heap.size]?=some (jn #[fs Y,S [],hK Y 0 0,J U 0,J hN 0] 208 (0,0))/\w.heap.size+2<=W2):=⟨ka _ _,(by have:=y.o;have:=bl.o.size;omega)⟩;have g9:Hid (kt (w.heap.size+2) w1 (W2.alloc (jn #[fs Y,S [],hK Y 0 0,J U 0,J hN 0] 208))):=bl.o.alloc (by have:=y.o;have:=bl.o.size;omega) _;have d6:=Z (⟨g6.1.alloc _,g6.2⟩:aU (W2.alloc (jn #[fs Y,S [],hK Y 0 0,J U 0,J hN 0] 208)) _ []/\_);refine o _ _ (λ_=>g9.o) ?_;clear o K;generalize W2.alloc (jn #[fs Y,S [],hK Y 0 0,J U 0,J hN 0] 208)=W3 at*;have m:=h0.1;have f0:=ae m 0;have f1:=ae m 1;have O:=ae m 2;have f3:=ae m 3;have f4:=ae m 4;have Q:=(ab m 0).trans rfl;have V:=(ab m 1).trans rfl;have x2:=(ab m 2).trans rfl;have x3:=(ab m 3).trans rfl;have x4:=(ab m 4).trans rfl;clear m;refine Dp 9 λK o=>?_;go_simp;have z:=eI (a:=fs (some H)) (b:=S (aN r)) (c:=hK Y 0 0) (d:=J U (bx r)) (e:=J hN k) h0.o d6.o g9.o _ rfl;refine o _ _ (λ_=>z.2.2.2) ?_;clear o K;refine dN ?_;have u:=Z z;clear z;go_wp2_with fail;go_meet;exact⟨_,_,rfl,u.1,u.2.1,u.2.2.1,u.2.2.2⟩
    skip;go_simp;have a9:Hid ((W1.alloc (jn #[fs Y,S [],hK Y 0 0,J U 0,J hN 0] 208)).heap[W1.heap.size]?=some (jn #[fs Y,S [],hK Y 0 0,J U 0,J hN 0] 208 (0,0))/\w.heap.size+2<=W1):=⟨ka _ _,(by have:=y.o;have:=ac.o.size;omega)⟩;have c7:Hid (kt (w.heap.size+2) w1 (W1.alloc (jn #[fs Y,S [],hK Y 0 0,J U 0,J hN 0] 208))):=ac.o.alloc (by have:=y.o;have:=ac.o.size;omega) _;have bc:=Z (⟨b9.1.alloc _,b9.2⟩:aU (W1.alloc (jn #[fs Y,S [],hK Y 0 0,J U 0,J hN 0] 208)) _ []/\_);refine o _ _ (λ_=>c7.o) ?_;clear o K;generalize W1.alloc (jn #[fs Y,S [],hK Y 0 0,J U 0,J hN 0] 208)=W4 at*;refine Dp 4 λK o=>?_;go_simp;go_at_call 179;refine kb (HY _ (F.trans (c7.mono (kc _ _)))) ?_;rintro e W5⟨rfl,aC⟩;have e5:=Z (btr c7.o aC (by have:=y.o;have:=c7.o.size;omega));have hM:=Z (⟨bc.1.block (aC.block _ bc.1.lt),bc.2⟩:aU W5 _ []/\_);have h4:=Z (⟨(aC.block _ (af a9.1)).trans a9.1,a9.2⟩:W5.heap[_]?=_/\_);clear aC;refine o _ _ (λ_=>e5.o) ?_;clear o K;refine Qc [7] e5.o ?_
    have m:=h4.1;have f0:=ae m 0;have f1:=ae m 1;have O:=ae m 2;have f3:=ae m 3;have f4:=ae m 4;have Q:=(ab m 0).trans rfl;have V:=(ab m 1).trans rfl;have x2:=(ab m 2).trans rfl;have x3:=(ab m 3).trans rfl;have x4:=(ab m 4).trans rfl;clear m;refine Dp 9 λK o=>?_;go_simp;have z:=eI (a:=fs (some H)) (b:=S (aN r)) (c:=hK Y 0 0) (d:=J U (bx r)) (e:=J hN k) h4.o hM.o e5.o _ rfl;refine o _ _ (λ_=>z.2.2.2) ?_;clear o K;refine dN ?_;have u:=Z z;clear z;go_wp2_with fail;go_meet;exact⟨_,_,rfl,u.1,u.2.1,u.2.2.1,u.2.2.2⟩
   skip;go_simp;have ex:Hid ((W0.alloc (jn #[fs Y,S [],hK Y 0 0,J U 0,J hN 0] 208)).heap[W0.heap.size]?=some (jn #[fs Y,S [],hK Y 0 0,J U 0,J hN 0] 208 (0,0))/\w.heap.size+2<=W0):=⟨ka _ _,(by have:=y.o;have:=aa.o.size;omega)⟩;have c9:Hid (kt (w.heap.size+2) w1 (W0.alloc (jn #[fs Y,S [],hK Y 0 0,J U 0,J hN 0] 208))):=aa.o.alloc (by have:=y.o;have:=aa.o.size;omega) _;have d8:=Z (⟨b8.1.alloc _,b8.2⟩:aU (W0.alloc (jn #[fs Y,S [],hK Y 0 0,J U 0,J hN 0] 208)) _ []/\_);refine o _ _ (λ_=>c9.o) ?_;clear o K;generalize W0.alloc (jn #[fs Y,S [],hK Y 0 0,J U 0,J hN 0] 208)=W6 at*;refine Dp 2 λK o=>?_;go_simp;go_at_call 178;refine kb (HT _ (F.trans (c9.mono (kc _ _)))) ?_;rintro e W7⟨rfl,cm⟩;have ca:=Z (btr c9.o cm (by have:=y.o;have:=c9.o.size;omega));have d9:=Z (⟨d8.1.block (cm.block _ d8.1.lt),d8.2⟩:aU W7 _ []/\_);have eQ:=Z (⟨(cm.block _ (af ex.1)).trans ex.1,ex.2⟩:W7.heap[_]?=_/\_);clear cm;refine o _ _ (λ_=>ca.o) ?_;clear o K;refine Dp 4 λK o=>?_;go_simp;go_at_call 179;refine kb (HY _ (F.trans (ca.mono (kc _ _)))) ?_;rintro e W8⟨rfl,cp⟩;have e6:=Z (btr ca.o cp (by have:=y.o;have:=ca.o.size;omega));have hO:=Z (⟨d9.1.block (cp.block _ d9.1.lt),d9.2⟩:aU W8 _ []/\_);have h5:=Z (⟨(cp.block _ (af eQ.1)).trans eQ.1,eQ.2⟩:W8.heap[_]?=_/\_);clear cp;refine o _ _ (λ_=>e6.o) ?_;clear o K;refine Qc [7] e6.o ?_
   have m:=h5.1;have f0:=ae m 0;have f1:=ae m 1;have O:=ae m 2;have f3:=ae m 3;have f4:=ae m 4;have Q:=(ab m 0).trans rfl;have V:=(ab m 1).trans rfl;have x2:=(ab m 2).trans rfl;have x3:=(ab m 3).trans rfl;have x4:=(ab m 4).trans rfl;clear m;refine Dp 9 λK o=>?_;go_simp;have z:=eI (a:=fs (some H)) (b:=S (aN r)) (c:=hK Y 0 0) (d:=J U (bx r)) (e:=J hN k) h5.o hO.o e6.o _ rfl;refine o _ _ (λ_=>z.2.2.2) ?_;clear o K;refine dN ?_;have u:=Z z;clear z;go_wp2_with fail;go_meet;exact⟨_,_,rfl,u.1,u.2.1,u.2.2.1,u.2.2.2⟩
  .skip;go_simp;go_at_call 178;refine kb (HT _ (F.trans (a1.mono (kc _ _)))) ?_;rintro e N⟨rfl,hk⟩;have a3:=Z (btr a1.o hk (by have:=y.o;have:=a1.o.size;omega));clear hk;refine o _ _ (λ_=>a3.o) ?_;clear o K;refine nd (i:=0) (j:=4) (k:=8) rfl rfl rfl (by kernel_rfl) rfl rfl rfl (λK o=>?_) (λK o=>?_) (λK o=>?_)
   .skip;go_simp;have bb:Hid (aU (N.alloc (.map #[] 0)) N []/\w.heap.size+2<=N):=⟨dE _,(by have:=y.o;have:=a3.o.size;omega)⟩;have ad:Hid (kt (w.heap.size+2) w1 (N.alloc (.map #[] 0))):=a3.o.alloc (by have:=y.o;have:=a3.o.size;omega) _;refine o _ _ (λ_=>ad.o) ?_;clear o K;generalize N.alloc (.map #[] 0)=W10 at*;refine cF (i:=4) (j:=8) rfl rfl (by kernel_rfl) rfl rfl (λK o=>?_) (λK o=>?_)
    .skip;go_simp;go_at_call 179;refine kb (HY _ (F.trans (ad.mono (kc _ _)))) ?_;rintro e ay⟨rfl,f5⟩;have bd:=Z (btr ad.o f5 (by have:=y.o;have:=ad.o.size;omega));have g4:=Z (⟨bb.1.block (f5.block _ bb.1.lt),bb.2⟩:aU ay _ []/\_);clear f5;refine o _ _ (λ_=>bd.o) ?_;clear o K;refine Qc [7] bd.o ?_
     refine Dp 8 λK o=>?_;go_simp;have gq:Hid ((ay.alloc (jn #[fs Y,S [],hK Y 0 0,J U 0,J hN 0] 208)).heap[ay.heap.size]?=some (jn #[fs Y,S [],hK Y 0 0,J U 0,J hN 0] 208 (0,0))/\w.heap.size+2<=ay):=⟨ka _ _,(by have:=y.o;have:=bd.o.size;omega)⟩;have g7:Hid (kt (w.heap.size+2) w1 (ay.alloc (jn #[fs Y,S [],hK Y 0 0,J U 0,J hN 0] 208))):=bd.o.alloc (by have:=y.o;have:=bd.o.size;omega) _;have hz:=Z (⟨g4.1.alloc _,g4.2⟩:aU (ay.alloc (jn #[fs Y,S [],hK Y 0 0,J U 0,J hN 0] 208)) _ []/\_);refine o _ _ (λ_=>g7.o) ?_;clear o K;generalize ay.alloc (jn #[fs Y,S [],hK Y 0 0,J U 0,J hN 0] 208)=W12 at*;have m:=gq.1;have f0:=ae m 0;have f1:=ae m 1;have O:=ae m 2;have f3:=ae m 3;have f4:=ae m 4;have Q:=(ab m 0).trans rfl;have V:=(ab m 1).trans rfl;have x2:=(ab m 2).trans rfl;have x3:=(ab m 3).trans rfl;have x4:=(ab m 4).trans rfl;clear m;refine Dp 9 λK o=>?_;go_simp;have z:=eI (a:=fs (some N)) (b:=S (aN r)) (c:=hK Y 0 0) (d:=J U (bx r)) (e:=J hN k) gq.o hz.o g7.o _ rfl;refine o _ _ (λ_=>z.2.2.2) ?_;clear o K;refine dN ?_;have u:=Z z;clear z;go_wp2_with fail;go_meet;exact⟨_,_,rfl,u.1,u.2.1,u.2.2.1,u.2.2.2⟩
    skip;go_simp;have e9:Hid ((W10.alloc (jn #[fs Y,S [],hK Y 0 0,J U 0,J hN 0] 208)).heap[W10.heap.size]?=some (jn #[fs Y,S [],hK Y 0 0,J U 0,J hN 0] 208 (0,0))/\w.heap.size+2<=W10):=⟨ka _ _,(by have:=y.o;have:=ad.o.size;omega)⟩;have bO:Hid (kt (w.heap.size+2) w1 (W10.alloc (jn #[fs Y,S [],hK Y 0 0,J U 0,J hN 0] 208))):=ad.o.alloc (by have:=y.o;have:=ad.o.size;omega) _;have d2:=Z (⟨bb.1.alloc _,bb.2⟩:aU (W10.alloc (jn #[fs Y,S [],hK Y 0 0,J U 0,J hN 0] 208)) _ []/\_);refine o _ _ (λ_=>bO.o) ?_;clear o K;generalize W10.alloc (jn #[fs Y,S [],hK Y 0 0,J U 0,J hN 0] 208)=W13 at*;refine Dp 4 λK o=>?_;go_simp;go_at_call 179;refine kb (HY _ (F.trans (bO.mono (kc _ _)))) ?_;rintro e h8⟨rfl,cc⟩;have dk:=Z (btr bO.o cc (by have:=y.o;have:=bO.o.size;omega));have hA:=Z (⟨d2.1.block (cc.block _ d2.1.lt),d2.2⟩:aU h8 _ []/\_);have gx:=Z (⟨(cc.block _ (af e9.1)).trans e9.1,e9.2⟩:h8.heap[_]?=_/\_);clear cc;refine o _ _ (λ_=>dk.o) ?_;clear o K;refine Qc [7] dk.o ?_
    have m:=gx.1;have f0:=ae m 0;have f1:=ae m 1;have O:=ae m 2;have f3:=ae m 3;have f4:=ae m 4;have Q:=(ab m 0).trans rfl;have V:=(ab m 1).trans rfl;have x2:=(ab m 2).trans rfl;have x3:=(ab m 3).trans rfl;have x4:=(ab m 4).trans rfl;clear m;refine Dp 9 λK o=>?_;go_simp;have z:=eI (a:=fs (some N)) (b:=S (aN r)) (c:=hK Y 0 0) (d:=J U (bx r)) (e:=J hN k) gx.o hA.o dk.o _ rfl;refine o _ _ (λ_=>z.2.2.2) ?_;clear o K;refine dN ?_;have u:=Z z;clear z;go_wp2_with fail;go_meet;exact⟨_,_,rfl,u.1,u.2.1,u.2.2.1,u.2.2.2⟩
   .skip;go_simp;go_at_call 179;refine kb (HY _ (F.trans (a3.mono (kc _ _)))) ?_;rintro e a2⟨rfl,hi⟩;have al:=Z (btr a3.o hi (by have:=y.o;have:=a3.o.size;omega));clear hi;refine o _ _ (λ_=>al.o) ?_;clear o K;refine cF (i:=0) (j:=8) rfl rfl (by kernel_rfl) rfl rfl (λK o=>?_) (λK o=>?_)
    .skip;go_simp;have g5:Hid (aU (a2.alloc (.map #[] 0)) a2 []/\w.heap.size+2<=a2):=⟨dE _,(by have:=y.o;have:=al.o.size;omega)⟩;have bk:Hid (kt (w.heap.size+2) w1 (a2.alloc (.map #[] 0))):=al.o.alloc (by have:=y.o;have:=al.o.size;omega) _;refine o _ _ (λ_=>bk.o) ?_;clear o K;generalize a2.alloc (.map #[] 0)=W16 at*;refine Qc [7] bk.o ?_
     refine Dp 8 λK o=>?_;go_simp;have gy:Hid ((W16.alloc (jn #[fs Y,S [],hK Y 0 0,J U 0,J hN 0] 208)).heap[W16.heap.size]?=some (jn #[fs Y,S [],hK Y 0 0,J U 0,J hN 0] 208 (0,0))/\w.heap.size+2<=W16):=⟨ka _ _,(by have:=y.o;have:=bk.o.size;omega)⟩;have g8:Hid (kt (w.heap.size+2) w1 (W16.alloc (jn #[fs Y,S [],hK Y 0 0,J U 0,J hN 0] 208))):=bk.o.alloc (by have:=y.o;have:=bk.o.size;omega) _;have hB:=Z (⟨g5.1.alloc _,g5.2⟩:aU (W16.alloc (jn #[fs Y,S [],hK Y 0 0,J U 0,J hN 0] 208)) _ []/\_);refine o _ _ (λ_=>g8.o) ?_;clear o K;generalize W16.alloc (jn #[fs Y,S [],hK Y 0 0,J U 0,J hN 0] 208)=W17 at*;have m:=gy.1;have f0:=ae m 0;have f1:=ae m 1;have O:=ae m 2;have f3:=ae m 3;have f4:=ae m 4;have Q:=(ab m 0).trans rfl;have V:=(ab m 1).trans rfl;have x2:=(ab m 2).trans rfl;have x3:=(ab m 3).trans rfl;have x4:=(ab m 4).trans rfl;clear m;refine Dp 9 λK o=>?_;go_simp;have z:=eI (a:=fs (some a2)) (b:=S (aN r)) (c:=hK Y 0 0) (d:=J U (bx r)) (e:=J hN k) gy.o hB.o g8.o _ rfl;refine o _ _ (λ_=>z.2.2.2) ?_;clear o K;refine dN ?_;have u:=Z z;clear z;go_wp2_with fail;go_meet;exact⟨_,_,rfl,u.1,u.2.1,u.2.2.1,u.2.2.2⟩
    skip;go_simp;have eb:Hid ((a2.alloc (jn #[fs Y,S [],hK Y 0 0,J U 0,J hN 0] 208)).heap[a2.heap.size]?=some (jn #[fs Y,S [],hK Y 0 0,J U 0,J hN 0] 208 (0,0))/\w.heap.size+2<=a2):=⟨ka _ _,(by have:=y.o;have:=al.o.size;omega)⟩;have bY:Hid (kt (w.heap.size+2) w1 (a2.alloc (jn #[fs Y,S [],hK Y 0 0,J U 0,J hN 0] 208))):=al.o.alloc (by have:=y.o;have:=al.o.size;omega) _;refine o _ _ (λ_=>bY.o) ?_;clear o K;generalize a2.alloc (jn #[fs Y,S [],hK Y 0 0,J U 0,J hN 0] 208)=W18 at*;refine Dp 0 λK o=>?_;go_simp;have hD:Hid (aU (W18.alloc (.map #[] 0)) W18 []/\w.heap.size+2<=W18):=⟨dE _,(by have:=y.o;have:=bY.o.size;omega)⟩;have dq:Hid (kt (w.heap.size+2) w1 (W18.alloc (.map #[] 0))):=bY.o.alloc (by have:=y.o;have:=bY.o.size;omega) _;have gz:=Z (⟨(kd W18 (.map #[] 0) _ (af eb.1)).trans eb.1,eb.2⟩:(W18.alloc (.map #[] 0)).heap[_]?=_/\_);refine o _ _ (λ_=>dq.o) ?_;clear o K;generalize W18.alloc (.map #[] 0)=W19 at*;refine Qc [7] dq.o ?_
    have m:=gz.1;have f0:=ae m 0;have f1:=ae m 1;have O:=ae m 2;have f3:=ae m 3;have f4:=ae m 4;have Q:=(ab m 0).trans rfl;have V:=(ab m 1).trans rfl;have x2:=(ab m 2).trans rfl;have x3:=(ab m 3).trans rfl;have x4:=(ab m 4).trans rfl;clear m;refine Dp 9 λK o=>?_;go_simp;have z:=eI (a:=fs (some W18)) (b:=S (aN r)) (c:=hK Y 0 0) (d:=J U (bx r)) (e:=J hN k) gz.o hD.o dq.o _ rfl;refine o _ _ (λ_=>z.2.2.2) ?_;clear o K;refine dN ?_;have u:=Z z;clear z;go_wp2_with fail;go_meet;exact⟨_,_,rfl,u.1,u.2.1,u.2.2.1,u.2.2.2⟩
   skip;go_simp;have b1:Hid ((N.alloc (jn #[fs Y,S [],hK Y 0 0,J U 0,J hN 0] 208)).heap[N.heap.size]?=some (jn #[fs Y,S [],hK Y 0 0,J U 0,J hN 0] 208 (0,0))/\w.heap.size+2<=N):=⟨ka _ _,(by have:=y.o;have:=a3.o.size;omega)⟩;have ao:Hid (kt (w.heap.size+2) w1 (N.alloc (jn #[fs Y,S [],hK Y 0 0,J U 0,J hN 0] 208))):=a3.o.alloc (by have:=y.o;have:=a3.o.size;omega) _;refine o _ _ (λ_=>ao.o) ?_;clear o K;generalize N.alloc (jn #[fs Y,S [],hK Y 0 0,J U 0,J hN 0] 208)=W20 at*;refine cF (i:=0) (j:=4) rfl rfl (by kernel_rfl) rfl rfl (λK o=>?_) (λK o=>?_)
   .skip;go_simp;have d3:Hid (aU (W20.alloc (.map #[] 0)) W20 []/\w.heap.size+2<=W20):=⟨dE _,(by have:=y.o;have:=ao.o.size;omega)⟩;have c1:Hid (kt (w.heap.size+2) w1 (W20.alloc (.map #[] 0))):=ao.o.alloc (by have:=y.o;have:=ao.o.size;omega) _;have eg:=Z (⟨(kd W20 (.map #[] 0) _ (af b1.1)).trans b1.1,b1.2⟩:(W20.alloc (.map #[] 0)).heap[_]?=_/\_);refine o _ _ (λ_=>c1.o) ?_;clear o K;generalize W20.alloc (.map #[] 0)=W21 at*;refine Dp 4 λK o=>?_;go_simp;go_at_call 179;refine kb (HY _ (F.trans (c1.mono (kc _ _)))) ?_;rintro e h9⟨rfl,cg⟩;have ds:=Z (btr c1.o cg (by have:=y.o;have:=c1.o.size;omega));have hF:=Z (⟨d3.1.block (cg.block _ d3.1.lt),d3.2⟩:aU h9 _ []/\_);have gO:=Z (⟨(cg.block _ (af eg.1)).trans eg.1,eg.2⟩:h9.heap[_]?=_/\_);clear cg;refine o _ _ (λ_=>ds.o) ?_;clear o K;refine Qc [7] ds.o ?_
    have m:=gO.1;have f0:=ae m 0;have f1:=ae m 1;have O:=ae m 2;have f3:=ae m 3;have f4:=ae m 4;have Q:=(ab m 0).trans rfl;have V:=(ab m 1).trans rfl;have x2:=(ab m 2).trans rfl;have x3:=(ab m 3).trans rfl;have x4:=(ab m 4).trans rfl;clear m;refine Dp 9 λK o=>?_;go_simp;have z:=eI (a:=fs (some W20)) (b:=S (aN r)) (c:=hK Y 0 0) (d:=J U (bx r)) (e:=J hN k) gO.o hF.o ds.o _ rfl;refine o _ _ (λ_=>z.2.2.2) ?_;clear o K;refine dN ?_;have u:=Z z;clear z;go_wp2_with fail;go_meet;exact⟨_,_,rfl,u.1,u.2.1,u.2.2.1,u.2.2.2⟩
   skip;go_simp;go_at_call 179;refine kb (HY _ (F.trans (ao.mono (kc _ _)))) ?_;rintro e a5⟨rfl,f6⟩;have c2:=Z (btr ao.o f6 (by have:=y.o;have:=ao.o.size;omega));have ej:=Z (⟨(f6.block _ (af b1.1)).trans b1.1,b1.2⟩:a5.heap[_]?=_/\_);clear f6;refine o _ _ (λ_=>c2.o) ?_;clear o K;refine Dp 0 λK o=>?_;go_simp;have hG:Hid (aU (a5.alloc (.map #[] 0)) a5 []/\w.heap.size+2<=a5):=⟨dE _,(by have:=y.o;have:=c2.o.size;omega)⟩;have dx:Hid (kt (w.heap.size+2) w1 (a5.alloc (.map #[] 0))):=c2.o.alloc (by have:=y.o;have:=c2.o.size;omega) _;have gP:=Z (⟨(kd a5 (.map #[] 0) _ (af ej.1)).trans ej.1,ej.2⟩:(a5.alloc (.map #[] 0)).heap[_]?=_/\_);refine o _ _ (λ_=>dx.o) ?_;clear o K;generalize a5.alloc (.map #[] 0)=W24 at*;refine Qc [7] dx.o ?_
   have m:=gP.1;have f0:=ae m 0;have f1:=ae m 1;have O:=ae m 2;have f3:=ae m 3;have f4:=ae m 4;have Q:=(ab m 0).trans rfl;have V:=(ab m 1).trans rfl;have x2:=(ab m 2).trans rfl;have x3:=(ab m 3).trans rfl;have x4:=(ab m 4).trans rfl;clear m;refine Dp 9 λK o=>?_;go_simp;have z:=eI (a:=fs (some a5)) (b:=S (aN r)) (c:=hK Y 0 0) (d:=J U (bx r)) (e:=J hN k) gP.o hG.o dx.o _ rfl;refine o _ _ (λ_=>z.2.2.2) ?_;clear o K;refine dN ?_;have u:=Z z;clear z;go_wp2_with fail;go_meet;exact⟨_,_,rfl,u.1,u.2.1,u.2.2.1,u.2.2.2⟩
  skip;go_simp;have b2:Hid ((H.alloc (jn #[fs Y,S [],hK Y 0 0,J U 0,J hN 0] 208)).heap[H.heap.size]?=some (jn #[fs Y,S [],hK Y 0 0,J U 0,J hN 0] 208 (0,0))/\w.heap.size+2<=H):=⟨ka _ _,(by have:=y.o;have:=a1.o.size;omega)⟩;have au:Hid (kt (w.heap.size+2) w1 (H.alloc (jn #[fs Y,S [],hK Y 0 0,J U 0,J hN 0] 208))):=a1.o.alloc (by have:=y.o;have:=a1.o.size;omega) _;refine o _ _ (λ_=>au.o) ?_;clear o K;generalize H.alloc (jn #[fs Y,S [],hK Y 0 0,J U 0,J hN 0] 208)=W25 at*;refine cF (i:=0) (j:=2) rfl rfl (by kernel_rfl) rfl rfl (λK o=>?_) (λK o=>?_)
  .skip;go_simp;have d4:Hid (aU (W25.alloc (.map #[] 0)) W25 []/\w.heap.size+2<=W25):=⟨dE _,(by have:=y.o;have:=au.o.size;omega)⟩;have c3:Hid (kt (w.heap.size+2) w1 (W25.alloc (.map #[] 0))):=au.o.alloc (by have:=y.o;have:=au.o.size;omega) _;have em:=Z (⟨(kd W25 (.map #[] 0) _ (af b2.1)).trans b2.1,b2.2⟩:(W25.alloc (.map #[] 0)).heap[_]?=_/\_);refine o _ _ (λ_=>c3.o) ?_;clear o K;generalize W25.alloc (.map #[] 0)=W26 at*;refine Dp 2 λK o=>?_;go_simp;go_at_call 178;refine kb (HT _ (F.trans (c3.mono (kc _ _)))) ?_;rintro e ha⟨rfl,ch⟩;have c4:=Z (btr c3.o ch (by have:=y.o;have:=c3.o.size;omega));have d5:=Z (⟨d4.1.block (ch.block _ d4.1.lt),d4.2⟩:aU ha _ []/\_);have eq:=Z (⟨(ch.block _ (af em.1)).trans em.1,em.2⟩:ha.heap[_]?=_/\_);clear ch;refine o _ _ (λ_=>c4.o) ?_;clear o K;refine Dp 4 λK o=>?_;go_simp;go_at_call 179;refine kb (HY _ (F.trans (c4.mono (kc _ _)))) ?_;rintro e hc⟨rfl,ci⟩;have dy:=Z (btr c4.o ci (by have:=y.o;have:=c4.o.size;omega));have hH:=Z (⟨d5.1.block (ci.block _ d5.1.lt),d5.2⟩:aU hc _ []/\_);have gQ:=Z (⟨(ci.block _ (af eq.1)).trans eq.1,eq.2⟩:hc.heap[_]?=_/\_);clear ci;refine o _ _ (λ_=>dy.o) ?_;clear o K;refine Qc [7] dy.o ?_
   have m:=gQ.1;have f0:=ae m 0;have f1:=ae m 1;have O:=ae m 2;have f3:=ae m 3;have f4:=ae m 4;have Q:=(ab m 0).trans rfl;have V:=(ab m 1).trans rfl;have x2:=(ab m 2).trans rfl;have x3:=(ab m 3).trans rfl;have x4:=(ab m 4).trans rfl;clear m;refine Dp 9 λK o=>?_;go_simp;have z:=eI (a:=fs (some W25)) (b:=S (aN r)) (c:=hK Y 0 0) (d:=J U (bx r)) (e:=J hN k) gQ.o hH.o dy.o _ rfl;refine o _ _ (λ_=>z.2.2.2) ?_;clear o K;refine dN ?_;have u:=Z z;clear z;go_wp2_with fail;go_meet;exact⟨_,_,rfl,u.1,u.2.1,u.2.2.1,u.2.2.2⟩
  skip;go_simp;go_at_call 178;refine kb (HT _ (F.trans (au.mono (kc _ _)))) ?_;rintro e a6⟨rfl,f7⟩;have av:=Z (btr au.o f7 (by have:=y.o;have:=au.o.size;omega));have b3:=Z (⟨(f7.block _ (af b2.1)).trans b2.1,b2.2⟩:a6.heap[_]?=_/\_);clear f7;refine o _ _ (λ_=>av.o) ?_;clear o K;refine cF (i:=0) (j:=4) rfl rfl (by kernel_rfl) rfl rfl (λK o=>?_) (λK o=>?_)
  .skip;go_simp;have d7:Hid (aU (a6.alloc (.map #[] 0)) a6 []/\w.heap.size+2<=a6):=⟨dE _,(by have:=y.o;have:=av.o.size;omega)⟩;have c5:Hid (kt (w.heap.size+2) w1 (a6.alloc (.map #[] 0))):=av.o.alloc (by have:=y.o;have:=av.o.size;omega) _;have er:=Z (⟨(kd a6 (.map #[] 0) _ (af b3.1)).trans b3.1,b3.2⟩:(a6.alloc (.map #[] 0)).heap[_]?=_/\_);refine o _ _ (λ_=>c5.o) ?_;clear o K;generalize a6.alloc (.map #[] 0)=W30 at*;refine Dp 4 λK o=>?_;go_simp;go_at_call 179;refine kb (HY _ (F.trans (c5.mono (kc _ _)))) ?_;rintro e hd⟨rfl,cj⟩;have dz:=Z (btr c5.o cj (by have:=y.o;have:=c5.o.size;omega));have hJ:=Z (⟨d7.1.block (cj.block _ d7.1.lt),d7.2⟩:aU hd _ []/\_);have h2:=Z (⟨(cj.block _ (af er.1)).trans er.1,er.2⟩:hd.heap[_]?=_/\_);clear cj;refine o _ _ (λ_=>dz.o) ?_;clear o K;refine Qc [7] dz.o ?_
   have m:=h2.1;have f0:=ae m 0;have f1:=ae m 1;have O:=ae m 2;have f3:=ae m 3;have f4:=ae m 4;have Q:=(ab m 0).trans rfl;have V:=(ab m 1).trans rfl;have x2:=(ab m 2).trans rfl;have x3:=(ab m 3).trans rfl;have x4:=(ab m 4).trans rfl;clear m;refine Dp 9 λK o=>?_;go_simp;have z:=eI (a:=fs (some a6)) (b:=S (aN r)) (c:=hK Y 0 0) (d:=J U (bx r)) (e:=J hN k) h2.o hJ.o dz.o _ rfl;refine o _ _ (λ_=>z.2.2.2) ?_;clear o K;refine dN ?_;have u:=Z z;clear z;go_wp2_with fail;go_meet;exact⟨_,_,rfl,u.1,u.2.1,u.2.2.1,u.2.2.2⟩
  skip;go_simp;go_at_call 179;refine kb (HY _ (F.trans (av.mono (kc _ _)))) ?_;rintro e a7⟨rfl,f8⟩;have c6:=Z (btr av.o f8 (by have:=y.o;have:=av.o.size;omega));have es:=Z (⟨(f8.block _ (af b3.1)).trans b3.1,b3.2⟩:a7.heap[_]?=_/\_);clear f8;refine o _ _ (λ_=>c6.o) ?_;clear o K;refine Dp 0 λK o=>?_;go_simp;have hL:Hid (aU (a7.alloc (.map #[] 0)) a7 []/\w.heap.size+2<=a7):=⟨dE _,(by have:=y.o;have:=c6.o.size;omega)⟩;have e4:Hid (kt (w.heap.size+2) w1 (a7.alloc (.map #[] 0))):=c6.o.alloc (by have:=y.o;have:=c6.o.size;omega) _;have h3:=Z (⟨(kd a7 (.map #[] 0) _ (af es.1)).trans es.1,es.2⟩:(a7.alloc (.map #[] 0)).heap[_]?=_/\_);refine o _ _ (λ_=>e4.o) ?_;clear o K;generalize a7.alloc (.map #[] 0)=W33 at*;refine Qc [7] e4.o ?_
  have m:=h3.1;have f0:=ae m 0;have f1:=ae m 1;have O:=ae m 2;have f3:=ae m 3;have f4:=ae m 4;have Q:=(ab m 0).trans rfl;have V:=(ab m 1).trans rfl;have x2:=(ab m 2).trans rfl;have x3:=(ab m 3).trans rfl;have x4:=(ab m 4).trans rfl;clear m;refine Dp 9 λK o=>?_;go_simp;have z:=eI (a:=fs (some a7)) (b:=S (aN r)) (c:=hK Y 0 0) (d:=J U (bx r)) (e:=J hN k) h3.o hL.o e4.o _ rfl;refine o _ _ (λ_=>z.2.2.2) ?_;clear o K;refine dN ?_;have u:=Z z;clear z;go_wp2_with fail;go_meet;exact⟨_,_,rfl,u.1,u.2.1,u.2.2.1,u.2.2.2⟩
 obtain⟨T,B,rfl,h6,ft,b4,bw⟩:=hcut;have fc:OfS (w.heap.size+2) w1 T B #[fs (some B),S (aN r),hK Y 0 0,(bx r),J hN k] wc []:=⟨bw.o,h6.o,ft.o,b4.o.1,b4.o.2,by have:=bw.o.size;have:=y.o;omega⟩;obtain⟨cs,f9⟩:∃cs:Array ky, #[fs (some B),S (aN r),hK Y 0 0,(bx r),J hN k]=cs:=⟨_,rfl⟩;rw[f9]at fc;have fx:=Z f9;have hW:=Z fc;have hf:=(bw.o.block w (by omega)).trans HR.o;have s2:wc.cell? ⟨w,2,Y⟩=some (hK a0 r c0):=(ab hf 2).trans rfl;have fz:Hid (∀W bs,OfS (w.heap.size+2) w1 T B cs W bs->Bw w W):=λW bs h=>F.o.trans (h.b.mono (by omega));clear fc f9 hf h6 ft bw r0 r1 r2;go_wp2_with fail;go_loopw [23] (λi wr=>∃q:Nat,q<=r/\i=J U q/\Hid (OfS (w.heap.size+2) w1 T B cs wr (booksR (r.take q)))) (λi _=>r-(intOf i).toNat)
 case atStart=>exact⟨0,Nat.zero_le _,rfl,hW.o.same (by simp[booksR])⟩
 obtain⟨q,hq,rfl,b0⟩:=hrel;by_cases hlt:q<r;rotate_left
 .have HE:Hid (booksR r=booksR (r.take q)):=by unfold Hid;rw[kx (by omega)]
  have aS:=fz _ _ b0.o;have cu:=b0.same HE.o;have e7:=Z ((b0.o.b.block w (by omega)).trans HR.o);have h7:=Z ((b0.o.b.block (w.heap.size+1) (by omega)).trans HZ.o);have r0:wr.cell? w=some (J hN k):=(ab e7.o 0).trans rfl;have r1:wr.cell? ⟨w,1,Y⟩=some (J hN l):=(ab e7.o 1).trans rfl;have r2:wr.cell? ⟨w,2,Y⟩=some (hK a0 r c0):=(ab e7.o 2).trans rfl;have H1:=Z (HF wr aS);have hx:=Z aS;have bv:=Z cu;clear aS cu;obtain⟨g,hg⟩:=Qe ((firstF r [49,48,48]).getD zeroF);obtain⟨tx,fl⟩:=Qe (textF (firstF r [49,48,48]) [97]);have fp:tx=textS g.subs [97]:=by rw[<- fl,<- hg,j7]
  rw[hg]at H1 ax;rw[fl]at ax fr;obtain⟨gt,gi,gd,gs⟩:=g;dsimp only at H1 ax fp;have H3:Hid (∀(W:ko)(d:ky),aE 0 W W d gs->ld prog 183 #[.agg #[S gt,S gi,S gd,d],J hN 97] W λe w'=>e=k0 (S tx)/\Bw W w'):=λW d h=>by rw[fp];exact rb gt gi gd d gs 97 W h ax.1 ax.2.1
  have H4:Hid (∀W,ld prog 182 #[S tx] W λe w'=>∃v,e=k0 v/\w'.ownsRow W 9 1 v (wordsR tx).length ((wordsR tx).map λs=>S s)/\Bw W w'):=λW=>wh tx ax.2.2 W;generalize(firstF r [49,48,48]).isSome=is1 at*;have iS:¬(w+1=T):=by have:=b4.o.2;omega
  have j0:¬(T=w+1):=by have:=b4.o.2;omega
  clear hg fl fp ax
  go_wp2_with (first
   |(go_at_call 181;((with_reducible refine kb H1.o ?_);rintro e M⟨⟨v,rfl,dd,rfl,aT⟩,E⟩;obtain⟨da,dc,rfl,_⟩:=id aT;have hQ:=Z (aT.mono (kn 0) E.size);have cz:=Z E;clear aT E))
   |(go_at_call 183;((with_reducible refine kb (H3.o _ _ (hQ.o.up2 (bo _ _) (kn _))) ?_);rintro e w4⟨rfl,hj⟩;have cP:=Z ((bo M _).trans (hj.mono (by simp)));clear hj))
   |(go_at_call 182;((with_reducible refine kb (H4.o _) ?_);rintro e w5⟨v,rfl,fb,aC⟩;obtain⟨va,vc,rfl⟩:=aQ fb;have hP:=Z fb;have cl:Bw wr w5:=cz.o.trans ((cP.o.trans (aC.mono cP.o.size)).mono cz.o.size);have hu:=Z cl;have a8:=(cl.block _ (af bv.o.t)).trans bv.o.t;rw[<- fx.o]at a8;have P:=(cl.block _ (af h7.o)).trans h7.o;have O:=ae a8 2;have Q:=(ab a8 0).trans rfl;have V:=(ab a8 1).trans rfl;have x2:=(ab a8 2).trans rfl;have x3:=(ab a8 3).trans rfl;have x4:=(ab a8 4).trans rfl;have y0:=ae P 0;have y1:=ae P 1;have y2:=ae P 2;have y3:=ae P 3;have y4:=ae P 4;have u0:=(ab P 0).trans rfl;have u1:=(ab P 1).trans rfl;have u2:=(ab P 2).trans rfl;have u3:=(ab P 3).trans rfl;have u4:=(ab P 4).trans rfl;have i8:=Z a8;have ia:=Z P;clear aC cl a8 P fb)))
  refine bodyPost_ret (v:=.agg #[fs (some B),S (aN r),.slice va (wordsR tx).length vc,(bx r),J hN k]) (by rw[df rfl];go_simp) rfl ?_;refine⟨_,rfl,CO bv.o hu.o hP.o fr.o b4.o hx.o (by have:=cP.o.size;have:=cz.o.size;have:=bv.o.sz;have:=af bv.o.t;omega) _ _ _ _ _ _ _ rfl⟩
 have aS:=fz _ _ b0.o;have hn:ah 0 w wr (hK a0 r c0) r:=hS _ aS;have j4:w.heap.size<=wr:=aS.size;obtain⟨b,ja,ib,d,hv,az,cd,e0,e1,e2,e3,aT⟩:=hn.field q hlt;cases hv;have L:=gp.2 _ (List.getElem_mem hlt);have HN:=Z (mZ r q hlt);rw[il]at HN;have j2:r[q].subs.length<=1000000:=k5 (cr _) L;have hV:Hid (∀s∈r[q].subs,s.text.length<=1000000):=λs hs=>iX L hs;obtain⟨da,dc,rfl,_⟩:=id aT;have hY:=Z aT;clear aT hn L aS;generalize r[q].tag=TG at*;generalize r[q].ind=IN at*;generalize r[q].data=DT at*;generalize r[q].subs=ss at*;obtain⟨wq,cx⟩:=Qe (wr.alloc (jn #[S TG,S IN,S DT,hK da ss dc] 123));have cq:Bw wr wq:=by rw[<- cx];exact(kq _ wr).alloc (kn _) _
 have he:wq.heap[wr.heap.size]?=some (jn #[S TG,S IN,S DT,hK da ss dc] 123 (0,0)):=by rw[<- cx];exact ka wr _
 have hX:=Z (b0.below cq);have i0:Hid (aE 0 w wq (hK da ss dc) ss):=hY.o.kept (λk _ h=>cq.block k (by omega));have i2:=Z cx;have cQ:=Z he;have hw:=Z cq;obtain⟨R,hR⟩:=Qe wr.heap.size;clear cx he cq;go_upto_region 5 with fail;rw[i2.o];rw[hR]at cQ;have gf:=Z hR;clear hR;have g0:wq.cell? ⟨R,3,Y⟩=some (hK da ss dc):=(ab cQ.o 3).trans rfl;go_wp2_with fail;go_loopw [30] (λj wx=>∃p:Nat,p<=ss/\j=J U p/\Hid (OfS (w.heap.size+2) w1 T B cs wx (booksR (r.take q)++bookS TG (ss.take p)))/\Hid (wx.heap[R]?=some (jn #[S TG,S IN,S DT,hK da ss dc] 123 (0,0)))/\Hid (aE 0 w wx (hK da ss dc) ss)/\R<=wx/\w<=R) (λj _=>ss-(intOf j).toNat)
 case atStart=>exact⟨0,Nat.zero_le _,rfl,hX.o.same (by unfold bookS;split<;>simp),cQ,i0,by have:=hw.o.size;have:=gf.o;omega,by have:=gf.o;omega⟩
 obtain⟨p,hp,rfl,a4,G,bt,iD,cv⟩:=hrel;by_cases hlp:p<ss;rotate_left
 .have HE:Hid (booksR (r.take (q+1))=booksR (r.take q)++bookS TG (ss.take p)):=by unfold Hid;rw[HN.o,show ss.take p=ss from kx (by omega)]
  go_wp2_with fail;go_roundw;exact⟨q+1,hlt,by go_num,a4.same HE.o⟩;simp[intOf];omega
 obtain⟨b',jb,it,hv,_,iF,d0,d1⟩:=bt.sub p hlp;cases hv;have bB:=Z (gD TG ss p hlp);have j3:=hV _ (List.getElem_mem hlp);generalize ss[p].code=C at*;generalize ss[p].text=X at*;have iN:b'<wr:=by omega
 have gb:=Z (dt r q gp.o);have gn:Hid ((bookS TG (ss.take p)).length<=1000000):=by have h1:=fU TG (ss.take p);rw[k6]at h1;unfold Hid;omega
 obtain⟨LB,cb⟩:=Qe (booksR (r.take q)++bookS TG (ss.take p));have iv:LB.length<=2000000000000:=by have:=gb.o;have:=gn.o;rw[<- cb,kz];omega
 rw[cb]at a4;have bA:=Z cb;clear cb gb gn;cases hI:isbnR X with
 |none=>
  have b7:Hid (∀W,ld prog 180 #[S X] W λe w'=>e=k0 (.tuple #[S [],fn false])/\Bw W w'):=λW=>by have:=jL X W (by omega);rw[hI]at this;exact this
  have HE:Hid (booksR (r.take q)++bookS TG (ss.take (p+1))=LB):=by unfold Hid;rw[bB.o,hI,<- bA.o];split<;>simp
  clear hI;go_wp2_with (go_at_call 180;(refine kb (b7.o _) ?_;rintro e M⟨rfl,E⟩;have I:Bw wr M:=(bo wr _).trans (E.mono (by simp));have A:=Z I;clear I E))
  go_roundw;exact⟨p+1,hlp,by go_num,(a4.o.below A.o).same HE.o,(A.o.block _ (af G.o)).trans G.o,bt.o.kept (λg _ hg=>A.o.block g (by omega)),by have:=A.o.size;omega,cv⟩;simp[intOf];omega
 |some n=>
  have b7:Hid (∀W,ld prog 180 #[S X] W λe w'=>e=k0 (.tuple #[S n,fn true])/\Bw W w'):=λW=>by have:=jL X W (by omega);rw[hI]at this;exact this
  have j1:n.length<=13:=ev hI;by_cases m:TG=[48,50,48];rotate_left
  .have HE:Hid (booksR (r.take q)++bookS TG (ss.take (p+1))=LB):=by unfold Hid;rw[bB.o,<- bA.o,if_neg (λh=>m h.1),List.append_nil]
   have b6:Hid (∀W,Bw wr W->W.cell? ⟨R,0,Y⟩=some (S TG)):=λW D=>(ab ((D.block _ (af G.o)).trans G.o) 0).trans rfl;clear hI;go_wp2_with (go_at_call 180;(refine kb (b7.o _) ?_;rintro e M⟨rfl,E⟩;have I:Bw wr M:=(bo wr _).trans (E.mono (by simp));have r0:=b6.o M I;have z0:=((aq E).1 wr 0 (by simp));have A:=Z I;clear I E))
   go_roundw;exact⟨p+1,hlp,by go_num,(a4.o.below A.o).same HE.o,(A.o.block _ (af G.o)).trans G.o,bt.o.kept (λg _ hg=>A.o.block g (by omega)),by have:=A.o.size;omega,cv⟩;simp[intOf];omega
  subst m;by_cases hC:C=97;rotate_left
  .have i4:((C.toNat:Int)==97)=false:=by have:C.toNat≠97:=λh=>hC (UInt8.toNat_inj.1 h);simp;omega
   have HE:Hid (booksR (r.take q)++bookS [48,50,48] (ss.take (p+1))=LB):=by unfold Hid;rw[bB.o,<- bA.o,if_neg (λh=>hC h.2),List.append_nil]
   have b6:Hid (∀W,Bw wr W->W.cell? ⟨R,0,Y⟩=some (S [48,50,48])):=λW D=>(ab ((D.block _ (af G.o)).trans G.o) 0).trans rfl;clear hI hC;go_wp2_with (go_at_call 180;(refine kb (b7.o _) ?_;rintro e M⟨rfl,E⟩;have I:Bw wr M:=(bo wr _).trans (E.mono (by simp));have r0:=b6.o M I;have z0:=((aq E).1 wr 0 (by simp));have A:=Z I;clear I E))
   go_roundw;exact⟨p+1,hlp,by go_num,(a4.o.below A.o).same HE.o,(A.o.block _ (af G.o)).trans G.o,bt.o.kept (λg _ hg=>A.o.block g (by omega)),by have:=A.o.size;omega,cv⟩;simp[intOf];omega
  have i4:((C.toNat:Int)==97)=true:=by rw[hC];rfl
  have HE:Hid (booksR (r.take q)++bookS [48,50,48] (ss.take (p+1))=LB++[n]):=by unfold Hid;rw[bB.o,hI,<- bA.o,if_pos ⟨rfl,hC⟩];simp
  obtain⟨lb,g1,g2,g3⟩:=a4.k;have fy:=Z g1;have hy:=Z g2;have b6:Hid (∀W,Bw wr W->W.cell? T=some (fs (some B))/\W.cell? ⟨R,0,Y⟩=some (S [48,50,48])):=λW D=>⟨by rw[ab ((D.block _ (af a4.o.t)).trans a4.o.t),<- fx.o];rfl,(ab ((D.block _ (af G.o)).trans G.o) 0).trans rfl⟩
  clear hI hC g1 g2
  go_wp2_with (first
   |(go_at_call 180;((with_reducible refine kb (b7.o _) ?_);rintro e M⟨rfl,E⟩;have I:Bw wr M:=(bo wr _).trans (E.mono (by simp));obtain⟨t0,r0⟩:=b6.o M I;have z0:=((aq E).1 wr 0 (by simp));have d6:Hid (an tQ M B (lb.map λs=>(s,fn true))):=fy.o.block (I.block _ fy.o.lt);have A:=Z I;clear I E))
   |(at_mapUpdate;refine ve _ rfl _ _ _ 206 rfl 4 underlying206 B _ rfl d6.o ?_ n ?_ rfl (fn true) rfl ?_;(focus (rw[List.length_map];unfold maxLen;omega));(focus (show n<=maxLen;unfold maxLen;omega));intro w4 hl ho;have bc:=Z hl;have a9:=Z (eA ho);clear hl ho))
  go_roundw
  case rel=> obtain⟨l',e1,e2,e3⟩:=yY lb n;have hm:=bc.o;rw[e1]at hm;have cu:OfS (w.heap.size+2) w1 T B cs w4 (LB++[n]):=(a4.o.below A.o).put a9.o ⟨l',hm,λs=>by rw[e2,hy.o];simp,by simp;omega⟩;have i6:=oz ((a4.below A.o).k) ((A.block _ (af G.o)).trans G.o);exact⟨p+1,hlp,by go_num,cu.same HE.o,(a9.o.block _ i6).trans ((A.o.block _ (af G.o)).trans G.o),bt.o.kept (λg _ hg=>(a9.o.block g (by have:=b4.o.1;omega)).trans (A.o.block g (by omega))),by have:=A.o.size;rw[a9.o.size];omega,cv⟩
  simp[intOf];omega
structure ct(w W:ko)(c1 c2:Array ky)(n:Int):Prop where
 b:Bw w W
 x:W.heap[w.heap.size]?=some (.cells c1 208 (0,0))
 y:W.heap[w.heap.size+1]?=some (.cells c2 208 (0,0))
 s:W.heap[w.heap.size+2]?=some (.cells #[n] 3 (0,0))
theorem ct.below{w W c:ko}{c1 c2:Array ky}{n:Int}(h:ct w W c1 c2 n)(a:Bw W c):ct w c c1 c2 n:=
 ⟨h.b.trans (a.mono h.b.size),(a.block _ (af h.x)).trans h.x,(a.block _ (af h.y)).trans h.y,(a.block _ (af h.s)).trans h.s⟩
theorem ct.add{w W:ko}{c1 c2:Array ky}{n:Int}(h:ct w W c1 c2 n)(hn: -1000<=n/\n<=1000)(p q:Bool)(x y:Int)(f: -1000<=x/\x<=1000)(g: -1000<=y/\y<=1000):
 ld prog 188 #[fn p,fn q,x,y,k3 (X ⟨w.heap.size+2,0,Y⟩)] W λe w'=>e=k0 (.tuple #[])/\ct w w' c1 c2 (if p then if q then n+x else n+y else n):=
 (rM (w.heap.size+2) n x y p q W h.s hn f g).mono λe w'⟨c,d,a⟩=>⟨c,⟨h.b.trans (a.below (by omega)),(a.block _ (by omega)).trans h.x,(a.block _ (by omega)).trans h.y,d⟩⟩
theorem AK{w:ko}{b:Nat}{l:List Bs}(h:an tQ w b (l.map λs=>(s,fn true)))(k:Bs):(lookL (l.map λs=>(s,la true)) k).getD (fn false)=fn (decide (k∈l)):=by
 by_cases hm:k∈l
 .rw[decide_eq_true hm,(bC h.nodup).2 (List.mem_map.2 ⟨k,hm,rfl⟩)];rfl
 rw[decide_eq_false hm,ix.2 (λv d=>by
  obtain⟨s,c,a⟩:=List.mem_map.1 d;injection a with h1 _
  exact hm (h1▸c))]
 rfl
theorem yJ{w:ko}{b:Nat}{l:List Bs}(h:an tQ w b (l.map λs=>(s,fn true)))(k:Bs)(a:k<=maxLen):(Instr.lookup 206 (fs (X b)) (S k) false).run prog w=.ok (fn (decide (k∈l))) w:=by
 have:=an.look h underlying206 (z:=fn false) (by kernel_rfl) k a;rw[AK h]at this;exact this
theorem oI{w:ko}{lo n c:Nat}{a:Option Addr}{l:List Bs}(h:w.ownsRow lo 9 1 (hK a n c) n (l.map λs=>S s))(hn:0<n):∃g,a=X ⟨g,0,Y⟩/\g<w/\w.cell? ⟨g,0,Y⟩=X (S (l.headD [])):=by
 obtain⟨g,k,b,_⟩:=World.ownsRow.form h hn;injection b with h1 h2 h3
 subst h1 h3;refine⟨g,rfl,(h.lt g (by simp[Value.ownBlock])).2,?_⟩;rw[h.cellAt 0 (by omega)];have d:l=n:=by have:=h.1;simpa using this
 cases l with
 |nil=>simp at d;omega
 |cons s l=>rfl
theorem my(s:Bs): -1<=aP s/\aP s<=9999:=by
 unfold aP;split
 .rename_i h;have:=mI s (λc a=>List.all_eq_true.1 h.2 c a) 4 (by omega);rw[kx (by omega)]at this;unfold foldN at this;omega
 omega
theorem nQ:∀s:Bs, -1<=bu s/\bu s<=9999
 |[]=>by unfold bu;omega
 |c::l=>by
  unfold bu
  split
  .exact my _
  .exact nQ l
theorem lu(a:List ag): -1<=bx a/\bx a<=9999:=by
 unfold bx;split
 .unfold fE;split
  .split
   .exact my _
   omega
  omega
 exact nQ _
theorem uf(dq ds:Nat)(u v:ky)(r s:aG)(w:ko)(hu:co dq w u r)(hv:co ds w v s)(hr:(bi r.fields).length<=1000000000)(k:(bi s.fields).length<=1000000000):
 ld prog 131 #[u,v] w λe w'=>e=k0 (pointsR r s)/\Bw w w':=by
 obtain⟨N,n1,k1,a1,rfl,_,⟨l1,m1,e1,_⟩,o1⟩:=hu;obtain⟨b2,n2,k2,a2,rfl,_,⟨l2,E,e2,_⟩,o2⟩:=hv;have d7:n1=(bi r.fields).length:=by have:=o1.1;simp at this;rcases o1.2 with⟨h,h0⟩|⟨g,c,cu,h,_⟩<;>injection h<;>omega
 have d8:n2=(bi s.fields).length:=by have:=o2.1;simp at this;rcases o2.2 with⟨h,h0⟩|⟨g,c,cu,h,_⟩<;>injection h<;>omega
 subst d7 d8;have HP:Hid (pointsR r s=bookPts (booksR r.fields) (booksR s.fields)+titlePts (aN r.fields) (aN s.fields)+authorPts (bi r.fields) (bi s.fields)+yearPts (bx r.fields) (bx s.fields)+(if r.kind=s.kind then 0 else -40)):=rfl;generalize booksR r.fields=B1 at*;generalize booksR s.fields=B2 at*;generalize aN r.fields=o at*;generalize aN s.fields=p at*;generalize bi r.fields=A1 at*;generalize bi s.fields=A2 at*;have er:=lu r.fields;have ex:=lu s.fields;generalize bx r.fields=Y1 at*;generalize bx s.fields=Y2 at*;generalize r.kind=K1 at*;generalize s.kind=K2 at*;obtain⟨c1,P⟩:∃c1:Array ky, #[fs (X N),S o,hK a1 A1.length k1,Y1,J hN K1.toNat]=c1:=⟨_,rfl⟩;obtain⟨c2,Q⟩:∃c2:Array ky, #[fs (X b2),S p,hK a2 A2.length k2,Y2,J hN K2.toNat]=c2:=⟨_,rfl⟩;have dx:=Z P;have dy:=Z Q;have bd:=Z m1;have bk:=Z E;have az:=Z o1;have aC:=Z o2;have ac:=Z e1;have ad:=Z e2
 have B:Hid (∀W n,ct w W c1 c2 n->(W.cell? w=X (fs (X N))/\W.cell? ⟨w,1,Y⟩=X (S o)/\W.cell? ⟨w,2,Y⟩=X (hK a1 A1.length k1)/\W.cell? ⟨w,3,Y⟩=X (J U Y1)/\W.cell? ⟨w,4,Y⟩=X (J hN K1.toNat))/\
  (W.cell? ⟨w.heap.size+1,0,Y⟩=X (fs (X b2))/\W.cell? ⟨w.heap.size+1,1,Y⟩=X (S p)/\W.cell? ⟨w.heap.size+1,2,Y⟩=X (hK a2 A2.length k2)/\W.cell? ⟨w.heap.size+1,3,Y⟩=X (J U Y2)/\W.cell? ⟨w.heap.size+1,4,Y⟩=X (J hN K2.toNat))):=λW n h=>by
  have j:=h.x
  have i:=h.y
  rw[<- P]at j
  rw[<- Q]at i
  exact⟨⟨(ab j 0).trans rfl,(ab j 1).trans rfl,(ab j 2).trans rfl,(ab j 3).trans rfl,(ab j 4).trans rfl⟩,⟨(ab i 0).trans rfl,(ab i 1).trans rfl,(ab i 2).trans rfl,(ab i 3).trans rfl,(ab i 4).trans rfl⟩⟩
 have bc:Hid (∀W,Bw w W->∀L,(Builtin.len_ #[206] L #[fs (X N)]).run prog W=.ok l1 W/\(Builtin.len_ #[206] L #[fs (X b2)]).run prog W=.ok l2 W):=λW hb L=>by have j:=cI.len (mv:=X N) (m1.block (hb.block _ m1.lt)) underlying206 L;have i:=cI.len (mv:=X b2) (E.block (hb.block _ E.lt)) underlying206 L;rw[List.length_map]at j i;exact⟨j,i⟩
 clear m1 E o1 o2 e1 e2;have a8:ct w (((w.alloc (jn c1 208)).alloc (jn c2 208)).alloc (jn #[J U 0] 3)) c1 c2 0:=by
  have z1:(w.alloc (jn c1 208)).heap.size=w+1:=by simp
  have z2:((w.alloc (jn c1 208)).alloc (jn c2 208)).heap.size=w+2:=by simp
  refine⟨(((kq _ w).alloc (kn _) _).alloc (by simp) _).alloc (by simp;omega) _,?_,?_,?_⟩
  .rw[kd _ _ _ (by simp;omega),kd _ _ _ (by simp)];exact ka w _
  .rw[kd _ _ _ (by simp),<- z1];exact ka _ _
  rw[<- z2];exact ka _ _
 rw[<- P,<- Q]at a8;generalize hW3:((w.alloc (jn #[fs (X N),S o,hK a1 A1.length k1,Y1,J hN K1.toNat] 208)).alloc (jn #[fs (X b2),S p,hK a2 A2.length k2,Y2,J hN K2.toNat] 208)).alloc (jn #[J U 0] 3)=w3 at a8;rw[P,Q]at a8;have cx:=Z hW3;have H3:=Z a8;have cd:w3.heap.size=w+3:=by rw[<- hW3];simp
 have ao:=Z cd;clear hW3 a8 P Q cd;go_enter func131,ntmps131;go_upto_region 4 with fail;rw[cx.o];obtain⟨⟨x0,_,_,_,_⟩,_⟩:=B w3 0 H3.o;have d6:=Z (bd.block (H3.b.block _ bd.lt));go_wp2_with (refine nS _ rfl _ _ rfl 4 underlying206 N _ rfl d6.o ?_;intro w4 cb bY dk)
 have bB:=Z cb;have H4:=Z (H3.below bY);clear cb bY dk x0;obtain⟨M,aT⟩:∃M:List (Bs×ky),l1.map (λs=>(s,fn true))=M:=⟨_,rfl⟩;rw[aT]at bB;have ay:=Z aT;clear aT;go_simp;go_loopg [7] (M.length+1) (λg t wr=>∃(b:Bool)(left:List (Bs×ky)),left<g/\t=fn b/\Hid (cJ tQ wr N w3 M left)/\Hid (ct w wr c1 c2 0)/\Hid (b=true↔∃x∈M,x∉left/\x.1∈l2))
 case atStart=>exact⟨false,M,by omega,rfl,bB,H4,by
  unfold Hid;constructor
  .intro h;cases h
  rintro⟨x,R,hn,_⟩;exact absurd R hn⟩
 obtain⟨b,left,eb,rfl,HR,V,HB⟩:=hrel;go_wp2_with (refine qT _ rfl _ rfl N w3 M left rfl HR.o ?_ ?_)
 .intro d4;subst d4;have b7:Hid (b=true↔B1.any B2.contains=true):=by
   unfold Hid;rw[HB.o,List.any_eq_true];constructor
   .rintro⟨x,R,_,i⟩;rw[<- ay.o]at R;obtain⟨s,k,rfl⟩:=List.mem_map.1 R;exact⟨s,(ac.o s).1 k,by simpa using(ad.o s).1 i⟩
   rintro⟨s,k,i⟩;exact⟨(s,fn true),by rw[<- ay.o];exact List.mem_map.2 ⟨s,(ac.o s).2 k,rfl⟩,by simp,(ad.o s).2 (by simpa using i)⟩
  go_upto_region 8 with fail;go_cut [] (λA=>Hid (ct w A c1 c2 (bookPts B1 B2)))
  case first=>
   obtain⟨⟨x0,_,_,_,_⟩,y0,_,_,_,_⟩:=B wr 0 V.o;have e8:=λL=>(bc wr V.b L).1;have e9:=λL=>(bc wr V.b L).2;have z1:l1.length=0↔B1=[]:=by
    rw[List.length_eq_zero_iff];constructor
    .rintro rfl;exact List.eq_nil_iff_forall_not_mem.2 λs k=>by have:=(ac.o s).2 k;simp at this
    rintro rfl;exact List.eq_nil_iff_forall_not_mem.2 λs k=>by have:=(ac.o s).1 k;simp at this
   have z2:l2.length=0↔B2=[]:=by
    rw[List.length_eq_zero_iff];constructor
    .rintro rfl;exact List.eq_nil_iff_forall_not_mem.2 λs k=>by have:=(ad.o s).2 k;simp at this
    rintro rfl;exact List.eq_nil_iff_forall_not_mem.2 λs k=>by have:=(ad.o s).1 k;simp at this
   have ax:Hid (bookPts B1 B2=if l1.length=0∨l2.length=0 then 0 else if b=true then 50 else -30):=by
    unfold Hid bookPts;by_cases hz:B1=[]∨B2=[]
    .rw[if_pos hz,if_pos (hz.imp z1.2 z2.2)]
    have dc:¬(l1.length=0∨l2.length=0):=λh=>hz (h.imp z1.1 z2.1);rw[if_neg hz,if_neg dc];by_cases hb:b=true
    .rw[if_pos hb,if_pos (b7.o.1 hb)]
    rw[if_neg hb,if_neg (λh=>hb (b7.o.2 h))]
   clear z1 z2;generalize l1.length=q1 at*;generalize l2.length=q2 at*;rcases ks q1 with rfl|F
   .go_wp2_with (go_at_call 188;refine kb (ct.add V.o ⟨by omega,by omega⟩ _ _ _ _ ⟨by decide,by decide⟩ ⟨by decide,by decide⟩) ?_;rintro e T⟨rfl,a⟩;have d:=Z a;clear a)
    go_meet;have:=d.o;rw[show bookPts B1 B2=0 by rw[ax.o];simp];show ct _ _ _ _ _;simpa using this
   rcases ks q2 with rfl|G
   .go_wp2_with (go_at_call 188;refine kb (ct.add V.o ⟨by omega,by omega⟩ _ _ _ _ ⟨by decide,by decide⟩ ⟨by decide,by decide⟩) ?_;rintro e T⟨rfl,a⟩;have d:=Z a;clear a)
    go_meet;have:=d.o;rw[show bookPts B1 B2=0 by rw[ax.o];simp];show ct _ _ _ _ _;simpa using this
   have C:(0:Int)<(q1:Int):=by omega
   have O:(0:Int)<(q2:Int):=by omega
   go_wp2_with (go_at_call 188;refine kb (ct.add V.o ⟨by omega,by omega⟩ _ _ _ _ ⟨by decide,by decide⟩ ⟨by decide,by decide⟩) ?_;rintro e T⟨rfl,a⟩;have d:=Z a;clear a)
   go_meet;have:=d.o;rw[show bookPts B1 B2=if b=true then 50 else -30 by rw[ax.o,if_neg (by omega)]];show ct _ _ _ _ _;simpa using this
  have al:=hcut;clear hcut;go_upto_region 9 with fail;go_cut [] (λA=>Hid (ct w A c1 c2 (bookPts B1 B2+titlePts o p)))
  case first=>
   obtain⟨⟨_,x1,_,_,_⟩,_,y1,_,_,_⟩:=B wc _ al.o;have e5: -30<=bookPts B1 B2/\bookPts B1 B2<=50:=by unfold bookPts;split;omega;split<;>omega
   have aS:Hid (titlePts o p=if o=[]∨p=[]then 0 else if o=p then 30 else -20):=rfl;generalize bookPts B1 B2=n at*;rcases o with _|⟨t1,o⟩
   .go_wp2_with (go_at_call 188;refine kb (ct.add al.o ⟨by omega,by omega⟩ _ _ _ _ ⟨by decide,by decide⟩ ⟨by decide,by decide⟩) ?_;rintro e T⟨rfl,a⟩;have d:=Z a;clear a)
    go_meet;have:=d.o;rw[aS.o];show ct _ _ _ _ _;simpa using this
   rcases p with _|⟨t2,p⟩
   .go_wp2_with (go_at_call 188;refine kb (ct.add al.o ⟨by omega,by omega⟩ _ _ _ _ ⟨by decide,by decide⟩ ⟨by decide,by decide⟩) ?_;rintro e T⟨rfl,a⟩;have d:=Z a;clear a)
    go_meet;have:=d.o;rw[aS.o];show ct _ _ _ _ _;simpa using this
   go_wp2_with (go_at_call 188;refine kb (ct.add al.o ⟨by omega,by omega⟩ _ _ _ _ ⟨by decide,by decide⟩ ⟨by decide,by decide⟩) ?_;rintro e T⟨rfl,a⟩;have d:=Z a;clear a)
   go_meet;have:=d.o;rw[aS.o];show ct _ _ _ _ _;by_cases hT:(t1::o:Bs)=t2::p
   .rw[if_neg (by simp),if_pos hT];injection hT with C O
    subst C O;simpa using this
   rw[if_neg (by simp),if_neg hT];have cP:¬(t1=t2/\o=p):=λh=>hT (by rw[h.1,h.2]);simpa[cP]using this
  have a4:=hcut;clear hcut;obtain⟨n,hn⟩:=Qe (bookPts B1 B2+titlePts o p);have em: -50<=n/\n<=80:=by
   rw[<- hn];have j: -30<=bookPts B1 B2/\bookPts B1 B2<=50:=by unfold bookPts;split;omega;split<;>omega
   have i: -20<=titlePts o p/\titlePts o p<=30:=by unfold titlePts;split;omega;split<;>omega
   omega
  rw[hn]at a4;have HN:=Z hn;clear hn;go_upto_region 10 with fail;go_cut [61] (λt A=>t=fn (decide (0<A1.length)&&decide (0<A2.length))/\A=wc)
  case first=>
   obtain⟨⟨_,_,x2,_,_⟩,_,_,y2,_,_⟩:=B wc _ a4.o;generalize A1.length=q1 at*;generalize A2.length=q2 at*;rcases ks q1 with rfl|F
   .go_wp2_with fail;go_meet;exact⟨rfl,rfl⟩
   rcases ks q2 with rfl|G
   .have C:(0:Int)<(q1:Int):=by omega
    go_wp2_with fail;go_meet;exact⟨by simp,rfl⟩
   have C:(0:Int)<(q1:Int):=by omega
   have O:(0:Int)<(q2:Int):=by omega
   go_wp2_with fail;go_meet;exact⟨by simp[F,G],rfl⟩
  obtain⟨rfl,rfl⟩:=hcut;obtain⟨bb,a0⟩:=Qe ((decide (0<A1.length)&&decide (0<A2.length)));rw[a0];have b8:=Z a0;clear a0;go_upto_if 61 with fail;go_cut [] (λA=>Hid (ct w A c1 c2 (n+authorPts A1 A2)))
  case first=>
   cases bb
   .go_wp2_with fail;go_meet;have:authorPts A1 A2=0:=by
     unfold authorPts;rw[if_pos];have h:=b8.o;rw[k8,decide_eq_false_iff_not,decide_eq_false_iff_not]at h;rcases h with h|h
     .exact .inl (k7 (by omega))
     exact .inr (k7 (by omega))
    rw[this];show ct _ _ _ _ _;simpa using a4.o
   have h:=b8.o;rw[Bool.and_eq_true,decide_eq_true_eq,decide_eq_true_eq]at h;obtain⟨F,G⟩:=h;obtain⟨C,rfl,c4,P⟩:=oI az.o F;obtain⟨O,rfl,c5,Q⟩:=oI aC.o G;have cg:Hid (authorPts A1 A2=if A1=A2 then 15 else if A1.headD []=A2.headD []then 8 else -15):=by unfold Hid authorPts;rw[if_neg];rintro(rfl|rfl)<;>simp at F G
   have HQ:Hid (∀W n,ct w W c1 c2 n->W.cell? ⟨w,2,Y⟩=X (hK C A1.length k1)/\W.cell? ⟨w.heap.size+1,2,Y⟩=X (hK O A2.length k2)/\W.cell? C=X (S (A1.headD []))/\W.cell? O=X (S (A2.headD []))):=λW n h=>by obtain⟨⟨_,_,x2,_,_⟩,_,_,y2,_,_⟩:=B W n h;exact⟨x2,y2,((aq h.b).1 _ _ c4).trans P,((aq h.b).1 _ _ c5).trans Q⟩
   have ci:Hid (∀W n,ct w W c1 c2 n->ld prog 189 #[hK C A1.length k1,hK O A2.length k2] W λe w'=>e=k0 (fn (decide (A1=A2)))/\∃q,w'=W.drewN q):=λW n h=>
    xH (aj az.o (λg hg=>h.b.block g (az.lt g hg).2)) (aj aC.o (λg hg=>h.b.block g (aC.lt g hg).2)) hr k
   have cj:Hid (A1=A2->A1.headD []=A2.headD []):=λh=>by rw[h]
   clear P Q c4 c5;generalize A1.headD []=j at*;generalize A2.headD []=i at*;have dz:Hid (A1.length<=1000000000):=hr;have e0:Hid (A2.length<=1000000000):=k;generalize A1.length=q1 at*;generalize A2.length=q2 at*;have i1:(0:Int)<(q1:Int):=by omega
   have i2:(0:Int)<(q2:Int):=by omega
   have bO:∃m,ct w wc.drew c1 c2 m:=⟨n,a4.below (kq _ wc).drew⟩;have bt:Hid (ct w wc.drew c1 c2 n):=a4.below (kq _ wc).drew;generalize hdd:decide (A1=A2)=dd at*;have b9:=Z hdd;clear hdd;go_wp2_with fail;refine wT (λW=>∃m,ct w W c1 c2 m) 999 ?_;have I:=tkL [0,1,2,3,4,5,6,7,8,9,10,11,12,13];repeat(refine tkIS I ?_ rfl bO ?_ ?_;rotate_left;intro w' h;obtain⟨m,h⟩:=h;obtain⟨c0,d0,c3,d3⟩:=HQ w' m h;go_simp;rfl;(try go_simp);replace I:=tkO I)
   clear I;refine Dp 14 λK l=>?_;go_simp;go_at_call 189;refine(ci _ _ bt.o).mono ?_;rintro e T⟨rfl,qq,cc⟩;have bv:Hid (ct w T c1 c2 n):=by rw[cc];exact bt.o.below ⟨rfl,rfl,rfl,kn _,λ_ _=>rfl⟩
   clear cc;refine l _ _ (λ_=>⟨n,bv.o⟩) ?_;clear l K;refine Dp 15 λK l=>?_;go_simp;go_at_call 188;refine kb (ct.add bv.o ⟨by omega,by omega⟩ _ _ 15 8 ⟨by decide,by decide⟩ ⟨by decide,by decide⟩) ?_;rintro e w6⟨rfl,z⟩;obtain⟨n6,b5,z⟩:∃n6,(n6=_)/\ct w w6 c1 c2 n6:=⟨_,rfl,z⟩;have e4: -50<=n6/\n6<=95:=by rw[b5];split;split;omega;omega;omega
   have a3:=Z z;have cm:=Z b5;clear b5;refine l _ _ (λ_=>⟨_,z⟩) ?_;clear l K;refine dN ?_;have cz:∃m,ct w w6.drew c1 c2 m:=⟨n6,a3.below (kq _ w6).drew⟩;have cq:Hid (ct w w6.drew c1 c2 n6):=a3.below (kq _ w6).drew;clear z bO;go_wp2_with fail;refine wT (λW=>∃m,ct w W c1 c2 m) 999 ?_;have I:=tkL [0,1,2,3,4,5,6,7,8,9];repeat(refine tkIS I ?_ rfl cz ?_ ?_;rotate_left;intro w' h;obtain⟨m,h⟩:=h;obtain⟨c0,d0,c3,d3⟩:=HQ w' m h;go_simp;rfl;(try go_simp);replace I:=tkO I)
   clear I;refine Dp 10 λK l=>?_;go_simp;go_at_call 188;refine kb (ct.add cq.o ⟨by omega,by omega⟩ _ _ (-15) 0 ⟨by decide,by decide⟩ ⟨by decide,by decide⟩) ?_;rintro e w7⟨rfl,a7⟩;obtain⟨n7,c9,a7⟩:∃n7,(n7=_)/\ct w w7 c1 c2 n7:=⟨_,rfl,a7⟩;have cs:=Z a7;have cp:=Z c9;clear c9;refine l _ _ (λ_=>⟨_,a7⟩) ?_;clear l K;refine dN ?_;clear a7;go_wp2_with fail;go_meet;show ct _ _ _ _ _;have e6:=cm.o;have e7:=cp.o;have e:n+authorPts A1 A2=n7:=by
    rw[cg.o];by_cases hA:A1=A2
    .have hh:=cj hA;subst hh;rw[<- b9.o,decide_eq_true hA]at e6;rw[if_pos hA];simp at e6 e7;omega
    rw[<- b9.o,decide_eq_false hA]at e6;rw[if_neg hA];by_cases hh:j=i
    .subst hh;simp at e6 e7 ⊢;omega
    rw[if_neg hh];simp[hh]at e6 e7;omega
   rw[e];exact cs.o
  have a5:=hcut;clear hcut;obtain⟨m,D⟩:=Qe (n+authorPts A1 A2);have eg: -65<=m/\m<=95:=by
   have: -15<=authorPts A1 A2/\authorPts A1 A2<=15:=by unfold authorPts;split;omega;split;omega;split<;>omega
   omega
  rw[D]at a5;have bs:=Z D;clear D;go_upto_region 13 with fail;go_cut [112] (λt A=>t=fn (decide (0<=Y1)&&decide (0<=Y2)&&decide (Y1-Y2≠1)&&decide (Y2-Y1≠1))/\A=wc)
  case first=>
   obtain⟨⟨_,_,_,x3,_⟩,_,_,_,y3,_⟩:=B wc _ a5.o;have w1:IntKind.i64.wrap (Y1-Y2)=Y1-Y2:=IntWalk.i64_in _ (by omega);have w2:IntKind.i64.wrap (Y2-Y1)=Y2-Y1:=IntWalk.i64_in _ (by omega);obtain⟨d1,b0⟩:=Qe (Y1-Y2);obtain⟨d2,b3⟩:=Qe (Y2-Y1);have W1:Hid (IntKind.i64.wrap (Y1-Y2)=d1):=by rw[w1];exact b0
   have W2:Hid (IntKind.i64.wrap (Y2-Y1)=d2):=by rw[w2];exact b3
   have a9:=Z b0;have aa:=Z b3;clear w1 w2 b0 b3;have w1:=W1.o;have w2:=W2.o;rcases Int.lt_or_le Y1 0 with F|F
   .have C:¬(0<=Y1):=by omega
    go_wp2_with fail;go_meet;refine⟨?_,rfl⟩;rw[a9.o,aa.o];simp;intro h;omega
   rcases Int.lt_or_le Y2 0 with G|G
   .have O:¬(0<=Y2):=by omega
    go_wp2_with fail;go_meet;refine⟨?_,rfl⟩;rw[a9.o,aa.o];simp;intro _ h;omega
   by_cases e1:d1=1
   .subst e1;go_wp2_with fail;go_meet;refine⟨?_,rfl⟩;rw[a9.o,aa.o];simp[F,G]
   have f1:(d1 !=1)=true:=by simp[e1]
   go_wp2_with fail;go_meet;refine⟨?_,rfl⟩;rw[a9.o,aa.o];by_cases e2:d2=1<;>simp[F,G,e1,e2,bne]
  obtain⟨rfl,rfl⟩:=hcut;obtain⟨bb,a0⟩:=Qe ((decide (0<=Y1)&&decide (0<=Y2)&&decide (Y1-Y2≠1)&&decide (Y2-Y1≠1)));rw[a0];have b6:=Z a0;clear a0;go_upto_if 112 with fail;go_cut [] (λA=>Hid (ct w A c1 c2 (m+yearPts Y1 Y2)))
  case first=>
   cases bb
   .go_wp2_with fail;go_meet;have h:=b6.o;have:yearPts Y1 Y2=0:=by
     unfold yearPts;simp only[k8,decide_eq_false_iff_not]at h;split
     .rfl
     rw[if_neg (by omega),if_pos (by omega)]
    rw[this];show ct _ _ _ _ _;simpa using a5.o
   obtain⟨⟨_,_,_,x3,_⟩,_,_,_,y3,_⟩:=B wc _ a5.o;go_wp2_with (go_at_call 188;refine kb (ct.add a5.o ⟨by omega,by omega⟩ _ _ _ _ ⟨by decide,by decide⟩ ⟨by decide,by decide⟩) ?_;rintro e T⟨rfl,a⟩;have d:=Z a;clear a)
   go_meet;have h:=b6.o;simp only[Bool.and_eq_true,decide_eq_true_eq]at h;have:=d.o;show ct _ _ _ _ _;unfold yearPts;rw[if_neg (by omega)];by_cases he:Y1=Y2
   .rw[if_pos he];simpa[he]using this
   rw[if_neg he,if_neg (by omega)];simpa[he]using this
  have d:=hcut;clear hcut;obtain⟨E,b4⟩:=Qe (m+yearPts Y1 Y2);have ej: -75<=E/\E<=105:=by
   have: -10<=yearPts Y1 Y2/\yearPts Y1 Y2<=10:=by unfold yearPts;split;omega;split;omega;split<;>omega
   omega
  rw[b4]at d;have bl:=Z b4;clear b4;obtain⟨⟨_,_,_,_,x4⟩,_,_,_,_,y4⟩:=B wc _ d.o;by_cases l:K1=K2
  .have hk:((K1.toNat:Int)==(K2.toNat:Int))=true:=by rw[l];simp
   have HK:=Z l;clear l;go_wp2_with (go_at_call 188;refine kb (ct.add d.o ⟨by omega,by omega⟩ _ _ _ _ ⟨by decide,by decide⟩ ⟨by decide,by decide⟩) ?_;rintro e w6⟨rfl,z⟩;have a3:=Z z;have s6:=(ab z.s 0).trans rfl;clear z)
   go_ret;refine⟨?_,a3.b⟩;rw[HP.o,HN.o,bs.o,bl.o,if_pos HK.o];simp
  have hk:((K1.toNat:Int)==(K2.toNat:Int))=false:=by have:K1.toNat≠K2.toNat:=λh=>l (UInt8.toNat_inj.1 h);simp;omega
  have HK:=Z l;clear l;go_wp2_with (go_at_call 188;refine kb (ct.add d.o ⟨by omega,by omega⟩ _ _ _ _ ⟨by decide,by decide⟩ ⟨by decide,by decide⟩) ?_;rintro e w6⟨rfl,z⟩;have a3:=Z z;have s6:=(ab z.s 0).trans rfl;clear z)
  go_ret;refine⟨?_,a3.b⟩;rw[HP.o,HN.o,bs.o,bl.o,if_neg HK.o];simp
 intro H pv w2 hp da ca c7 a6 cQ;have e3:w3.heap.size<wr:=HR.lt;have cv:Hid (left.Sublist M):=by obtain⟨es,f,cy,j,i,h3,h4,_⟩:=HR.o;exact h4
 have eq:H∈l1:=by
  obtain⟨es,f,cy,j,i,h3,h4,_⟩:=HR.o;have:=h4.subset hp;rw[<- ay.o]at this;obtain⟨s,k,he⟩:=List.mem_map.1 this;injection he with j _
  rw[<- j];exact k
 have au:ct w w2 c1 c2 0:=by have h:=V.o;exact⟨h.b.trans (a6.below (by have:=ao.o;omega)),(a6.block _ (by have:=ao.o;omega)).trans h.x,(a6.block _ (by have:=ao.o;omega)).trans h.y,(a6.block _ (by have:=ao.o;omega)).trans h.s⟩
 have d5:=yJ (bk.block (au.b.block _ bk.lt)) H da;obtain⟨_,y0,_,_,_,_⟩:=B w2 0 au;have bw:=Z au;have bA:=Z ca;have c6:tQ.kv H=S H:=rfl;rw[c6]at cQ;obtain⟨m,D⟩:=Qe (decide (H∈l2));rw[D]at d5;have cl:=Z D;have ch:=Z hp;clear ca au c6 a6 D hp;cases b;rotate_left
 .go_wp2_with fail;go_roundg (left.length)
  case rel=> refine⟨true,cK left H,c7,rfl,bA,bw,?_⟩;unfold Hid;obtain⟨x,R,hn,av⟩:=HB.o.1 (by simp);exact⟨λ_=>⟨x,R,λh=>hn (List.mem_filter.1 h).1,av⟩,λ_=>rfl⟩
  omega
 go_wp2_with fail;go_roundg (left.length)
 case rel=>
  refine⟨m,cK left H,c7,rfl,bA,bw,?_⟩;unfold Hid;have h0:=HB.o;rw[<- cl.o,decide_eq_true_eq];constructor
  .intro D;exact⟨(H,pv),cv.o.subset ch.o,by simp[cK],D⟩
  rintro⟨x,R,hn,av⟩;by_cases hxl:x∈left
  .have:x.1=H:=by apply Classical.byContradiction;intro d9;exact hn (List.mem_filter.2 ⟨hxl,by simpa using d9⟩)
   rw[<- this];exact av
  exact absurd (h0.2 ⟨x,R,hxl,av⟩) (by decide)
 omega
end
end Go.Proofs.YtjcimanddakkaaaGreatDoor
