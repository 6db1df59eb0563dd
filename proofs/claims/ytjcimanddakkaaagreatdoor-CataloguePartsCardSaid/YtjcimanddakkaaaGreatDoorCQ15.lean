/- Lemmas. -/
import Derived.Test.YtjcimanddakkaaaGreatDoorCQ14
import Derived.Test.YtjcimanddakkaaaGreatDoorCQ20
import Derived.Deep.CutBlock
set_option maxRecDepth 100000
set_option maxHeartbeats 8000000
namespace Go.Proofs.YtjcimanddakkaaaGreatDoor
open Go.Value renaming bool→fn,map→fs,slice→hK,int→J,pointer→k5
open _root_.Option renaming some→X,none→Y
open Go.IntKind renaming i64→U,u8→hN
open Go.Obj renaming cells→k3
open Go.Ending renaming returned→k4
open Go.Lib renaming hid→Z
open Tryz
open Go.World renaming alloc_heap_new→ka
open Go.Calls renaming mono→kb
open _root_.Nat renaming le_add_right→kc,le_refl→kn,eq_zero_or_pos→ks,le_trans→k7
open Go.RowKit.Below renaming heap_alloc→kd,heap_setCell→kk,refl→kq
open Go renaming World→ko,Value→ky,Calls→lk
open Go.RowKit renaming Below→kt
open _root_.List renaming take_of_length_le→kx,length_append→kz,take_succ_eq_append_getElem→k6,length_take→k8,eq_nil_of_length_eq_zero→k9,filterMap_cons→ld
open _root_.Bool renaming and_eq_false_iff→la
open Go.Value renaming bool→lf
section
open Go.RowKit Go.Maps Go.Shelf
def tB:ev prog 9 Bs where
 kv s:=S s
 kl s:=.string s
 ok s:=s.length<=maxLen
 keyed:=string_keyed underlying9
 key s h:=by
  unfold keyOf
  rw[underlying9]
  simp only[mapKey,underlying9]
  rw[if_pos (by show s.toArray.size<=maxLen;simpa using h)]
 inj a b h:=by
  injection h with h
  have:=congrArg (λx:ByteArray=>x.data.toList) h
  simpa using this
def aP(w:ko)(b:Nat)(a:List Bs):Prop:=∃l:List Bs,ak tB w b (l.map λs=>(s,fn true))/\(∀s,s∈l↔s∈a)/\l.length<=a.length
theorem aP.block{w w':ko}{b:Nat}{a:List Bs}(h:aP w b a)(e:w'.heap[b]?=w.heap[b]?):aP w' b a:=by
 obtain⟨l,c,d⟩:=h;exact⟨l,c.block e,d⟩
theorem aP.alloc{w:ko}{b:Nat}{a:List Bs}(h:aP w b a)(o:Obj):aP (w.alloc o) b a:=by
 obtain⟨l,c,d⟩:=h;exact⟨l,c.alloc o,d⟩
theorem du(w:ko):aP (w.alloc (.map #[] 0)) w.heap.size []:=⟨[],ak.made w,by simp,kn _⟩
theorem aP.lt{w:ko}{b:Nat}{a:List Bs}(h:aP w b a):b<w.heap.size:=by obtain⟨l,c,_⟩:=h;exact c.lt
def ce(lo:Nat)(w:ko)(v:ky)(r:aA):Prop:=∃(b n c:Nat)(a:Option Addr),v=.agg #[fs (X b),S (aK r.fields),hK a n c,J U (br r.fields),J hN r.kind.toNat]/\lo<=b/\aP w b (booksR r.fields)/\
 w.ownsRow lo 9 1 (hK a n c) (bh r.fields).length ((bh r.fields).map λs=>S s)
theorem yC(l:List Bs)(k:Bs):∃a:List Bs,putL (l.map λs=>(s,lf true)) k (fn true)=a.map (λs=>(s,lf true))/\(∀s,s∈a↔s∈l∨s=k)/\a.length<=l.length+1:=by
 refine⟨l.filter (λs=> !decide (s=k))++[k],?_,λs=>?_,by have:=List.length_filter_le (λs=> !decide (s=k)) l;simp;omega⟩
 .unfold putL cB;rw[List.filter_map,List.map_append];rfl
 simp only[List.mem_append,List.mem_filter,List.mem_singleton,Bool.not_eq_true',decide_eq_false_iff_not];constructor
 .rintro(⟨h,_⟩|h)
  .exact .inl h
  exact .inr h
 rintro(h|h)
 .by_cases e:s=k
  .exact .inr e
  exact .inl ⟨h,e⟩
 exact .inr h
theorem mV(a:List af)(q:Nat)(h:q<a.length):booksR (a.take (q+1))=booksR (a.take q)++qC a[q]:=by
 unfold booksR;rw[k6 h,List.flatMap_append];simp
def bookS(T:Bs)(a:List ct):List Bs:=if T=cZ then a.filterMap λs=>if s.code=97 then isbnR s.text else Y else[]
theorem ic(f:af):qC f=bookS f.tag f.subs:=rfl
theorem gr(T:Bs)(a:List ct)(j:Nat)(h:j<a.length):bookS T (a.take (j+1))=bookS T (a.take j)++(if T=cZ/\a[j].code=97 then(isbnR a[j].text).toList else[]):=by
 unfold bookS;rw[k6 h,List.filterMap_append];by_cases hT:T=cZ
 .simp only[hT,true_and];congr 1
  by_cases hc:a[j].code=97
  .rw[if_pos hc,ld,if_pos hc];cases isbnR a[j].text<;>rfl
  rw[if_neg hc,ld,if_neg hc];rfl
 simp[hT]
theorem fL(T:Bs)(a:List ct):(bookS T a).length<=a.length:=by
 unfold bookS;split
 .exact List.length_filterMap_le _ _
 simp
theorem xK(a:List af)(h:∀f∈a,f.subs.length<=1000000):(booksR a).length<=a.length*1000000:=by
 induction a with
 |nil=>simp[booksR]
 |cons f a ih=> have d:=h f List.mem_cons_self;have b:=ih λg c=>h g (List.mem_cons_of_mem _ c);have e:=fL f.tag f.subs;unfold booksR at b ⊢;rw[List.flatMap_cons,kz,ic,List.length_cons,Nat.succ_mul];omega
theorem dl(a:List af)(q:Nat)(h:bo a):(booksR (a.take q)).length<=1000000000000:=by
 have d:=xK (a.take q) λf c=>k7 (ci f) (h.2 f (List.mem_of_mem_take c));have b:(a.take q).length<=1000000:=by rw[k8];have:=h.1;omega
 have:=Nat.mul_le_mul_right 1000000 b;omega
theorem ed{s x:Bs}(h:isbnR s=X x):x.length<=13:=by
 unfold isbnR at h;dsimp only at h;split at h
 .rename_i a;injection h with h
  rw[<- h];simp only[kz,List.length_cons,List.length_nil,k8];omega
 split at h
 .rename_i a;injection h with h
  rw[<- h];omega
 cases h
structure OfS(lo:Nat)(w1:ko)(T B:Nat)(cells:Array ky)(W:ko)(bs:List Bs):Prop where
 b:kt lo w1 W
 t:W.heap[T]?=some (.cells cells 208 (0,0))
 k:aP W B bs
 lB:lo<=B
 lT:lo<=T
 sz:lo<=W.heap.size
theorem OfS.below{lo:Nat}{w1:ko}{T B:Nat}{e:Array ky}{W c:ko}{d:List Bs}(h:OfS lo w1 T B e W d)(a:Bw W c):OfS lo w1 T B e c d:=
 ⟨h.b.trans (a.mono h.sz),(a.block _ (ae h.t)).trans h.t,h.k.block (a.block _ h.k.lt),h.lB,h.lT,k7 h.sz a.size⟩
theorem OfS.ne{lo:Nat}{w1:ko}{T B:Nat}{b:Array ky}{W:ko}{a:List Bs}(h:OfS lo w1 T B b W a):B≠T:=by
 obtain⟨l,c,_⟩:=h.k;exact aj c h.t
theorem OfS.put{lo:Nat}{w1:ko}{T B:Nat}{d:Array ky}{W a:ko}{f e:List Bs}(h:OfS lo w1 T B d W f)(c:az B W a)(g:aP a B e):OfS lo w1 T B d a e:=
 ⟨h.b.trans (c.below h.lB),(c.block _ (Ne.symm h.ne)).trans h.t,g,h.lB,h.lT,by rw[c.size];exact h.sz⟩
theorem OfS.same{lo:Nat}{w1:ko}{T B:Nat}{b:Array ky}{W:ko}{a c:List Bs}(h:OfS lo w1 T B b W a)(e:c=a):OfS lo w1 T B b W c:=e▸h
theorem oh{W:ko}{b B t:Nat}{c:Array ky}{a:List Bs}(f:aP W B a)(e:W.heap[b]?=X (k3 c t (0,0))):b≠B:=by
 obtain⟨l,d,_⟩:=f;exact Ne.symm (aj d e)
theorem eu{w1 W:ko}{T B lo:Nat}{j k l m n a b c d e:ky}(h:W.heap[T]?=X (k3 #[j,k,l,m,n] 208 (0,0))/\lo<=T)(g:aP W B []/\lo<=B)(p:kt lo w1 W)(f:ko)
 (o:f=((((W.setCell ⟨T,0,Y⟩ a).setCell ⟨T,1,Y⟩ b).setCell ⟨T,2,Y⟩ c).setCell ⟨T,3,Y⟩ d).setCell ⟨T,4,Y⟩ e):
 f.heap[T]?=X (k3 #[a,b,c,d,e] 208 (0,0))/\aP f B []/\(lo<=B/\lo<=T)/\kt lo w1 f:=by
 subst o;have i:az T W (((((W.setCell ⟨T,0,Y⟩ a).setCell ⟨T,1,Y⟩ b).setCell ⟨T,2,Y⟩ c).setCell ⟨T,3,Y⟩ d).setCell ⟨T,4,Y⟩ e):=(((((az.refl T W).setCell 0 a).setCell 1 b).setCell 2 c).setCell 3 d).setCell 4 e;have q:B≠T:=Ne.symm (oh g.1 h.1);exact⟨(aq (aq (aq (aq (aq h.1 0 a) 1 b) 2 c) 3 d) 4 e).trans rfl,g.1.block (i.block _ q),⟨g.2,h.2⟩,p.trans (i.below h.2)⟩
theorem Cn{w w1 wr u j:ko}{T B:Nat}{A:Array ky}{k l:UInt8}{i:List af}{n:Bs}{r:Option Addr}{t:Nat}(h:OfS (w.heap.size+2) w1 T B A wr (booksR i))(v:Bw wr j)
 (o:j.ownsRow u.heap.size 9 1 (.slice r (wordsR n).length t) (wordsR n).length ((wordsR n).map λs=>S s))(F:bh i=wordsR n)(H:w.heap.size+2<=B/\w.heap.size+2<=T)(x:Bw w wr)(G:T<u.heap.size/\w.heap.size+2<=u.heap.size)
 (W:ko)(a b c d e f:ky)(E:W=((((((j.setCell ⟨T,2,Y⟩ a).setCell ⟨w.heap.size+1,0,Y⟩ b).setCell ⟨w.heap.size+1,1,Y⟩ c).setCell ⟨w.heap.size+1,2,Y⟩ d).setCell ⟨w.heap.size+1,3,Y⟩ e).setCell ⟨w.heap.size+1,4,Y⟩ f)):
 ce w.heap.size W (.agg #[fs (X B),S (aK i),.slice r (wordsR n).length t,J U (br i),J hN k.toNat]) ⟨k,l,i⟩/\Bw w W:=by
 subst E;have z:∀q,q≠T->q≠w.heap.size+1->((((((j.setCell ⟨T,2,Y⟩ a).setCell ⟨w.heap.size+1,0,Y⟩ b).setCell ⟨w.heap.size+1,1,Y⟩ c).setCell ⟨w.heap.size+1,2,Y⟩ d).setCell ⟨w.heap.size+1,3,Y⟩ e).setCell ⟨w.heap.size+1,4,Y⟩ f).heap[q]?=j.heap[q]?:=λq C m=>by rw[kk _ _ _ _ m,kk _ _ _ _ m,kk _ _ _ _ m,kk _ _ _ _ m,kk _ _ _ _ m,kk _ _ _ _ C]
 refine⟨⟨B,_,t,r,rfl,by omega,?_,?_⟩,?_⟩
 .exact(h.k.block (v.block _ h.k.lt)).block (z B h.ne (by omega))
 .show World.ownsRow _ _ _ _ _ (bh i).length _;rw[F];refine aD (ai o λg y=>z g ?_ ?_) (by omega)
  .have:=(o.lt g y).1;omega
  have:=(o.lt g y).1;omega
 have D:Bw w j:=x.trans (v.mono x.size);exact(((((D.setCell (p:=⟨T,2,Y⟩) (by simp;omega) _).setCell (p:=⟨w.heap.size+1,0,Y⟩) (by simp) _).setCell (p:=⟨w.heap.size+1,1,Y⟩) (by simp) _).setCell (p:=⟨w.heap.size+1,2,Y⟩) (by simp) _).setCell (p:=⟨w.heap.size+1,3,Y⟩) (by simp) _).setCell (p:=⟨w.heap.size+1,4,Y⟩) (by simp) _
theorem Co(k l:UInt8)(x:ky)(r:List af)(w:ko)(hs:ag 0 w.heap.size w x r)(L:bo r):
 lk prog 129 #[.agg #[J hN k.toNat,J hN l.toNat,x]] w λe w'=>∃v,e=k4 v/\ce w.heap.size w' v ⟨k,l,r⟩/\Bw w w':=by
 obtain⟨w1,b7⟩:=Qe ((w.alloc (k3 #[J hN k.toNat,J hN l.toNat,x] 62)).alloc (k3 #[fs Y,S [],hK Y 0 0,J U 0,J hN 0] 208));have hy:(w.alloc (k3 #[J hN k.toNat,J hN l.toNat,x] 62)).heap.size=w.heap.size+1:=by simp
 have aS:Bw w w1:=by rw[<- b7];exact((kq _ w).alloc (kn _) _).alloc (by simp) _
 have hR:w1.heap[w.heap.size]?=some (k3 #[J hN k.toNat,J hN l.toNat,x] 62 (0,0)):=by rw[<- b7,kd _ _ _ (by simp)];exact ka w _
 have hZ:w1.heap[w.heap.size+1]?=some (k3 #[fs Y,S [],hK Y 0 0,J U 0,J hN 0] 208 (0,0)):=by rw[<- b7,<- hy];exact ka (w.alloc _) _
 have hz:w1.heap.size=w.heap.size+2:=by rw[<- b7];simp
 have em:Hid (∀W,Bw w W->ag 0 W.heap.size W x r):=λW D=>(eW hs (kn _) D).mono (kn _) D.size;have i0:Hid (∀W,Bw w W->ag 0 w.heap.size W x r):=λW D=>hs.kept (λg _ hg=>D.block g hg);have HT:Hid (∀W,Bw w W->lk prog 178 #[.agg #[J hN k.toNat,J hN l.toNat,x]] W λe w'=>e=k4 (S (aK r))/\Bw W w'):=λW D=>nN k l x r W (em W D) L;have HY:Hid (∀W,Bw w W->lk prog 179 #[.agg #[J hN k.toNat,J hN l.toNat,x]] W λe w'=>e=k4 (J U (br r))/\Bw W w'):=λW D=>xR k l x r W (em W D) L
 have HF:Hid (∀W,Bw w W->lk prog 181 #[.agg #[J hN k.toNat,J hN l.toNat,x],S [49,48,48]] W λe w'=>(∃v,e=k4 (.tuple #[v,fn (firstF r [49,48,48]).isSome])/\∃d,v=.agg #[S ((firstF r [49,48,48]).getD zeroF).tag,S ((firstF r [49,48,48]).getD zeroF).ind,S ((firstF r [49,48,48]).getD zeroF).data,d]/\aw 0 W.heap.size w' d ((firstF r [49,48,48]).getD zeroF).subs)/\Bw W w'):=λW D=>
  oA k l x r [49,48,48] W (em W D) L.1
 have ay:Hid (((firstF r [49,48,48]).getD zeroF).subs.length<=1000000/\(∀s∈((firstF r [49,48,48]).getD zeroF).subs,s.text.length<=1000000)/\(textF (firstF r [49,48,48]) [97]).length<=1000000):=by
  refine⟨?_,?_,cE L _ _⟩
  .cases h:firstF r [49,48,48]with
   |none=>simp[zeroF]
   |some f=>exact k7 (ci f) (L.2 f (eK h))
  cases h:firstF r [49,48,48]with
  |none=>simp[zeroF]
  |some f=>exactλs hs=>iR (L.2 f (eK h)) hs
 have gO:=Z L;have g4:Hid (bh r=wordsR (textF (firstF r [49,48,48]) [97])):=rfl;obtain⟨a0,c0,rfl⟩:=hs.shape;have i8:=Z b7;have F:=Z aS;have HR:=Z hR;have HZ:=Z hZ;have y:=Z hz;have j1:=L.1;clear hs L b7 aS hR hZ hz hy;go_enter func129,ntmps129;go_upto_region 1 with fail;rw[i8.o];obtain⟨r0,r1,r2⟩:w1.cell? ⟨w.heap.size,0,Y⟩=some (J hN k.toNat)/\w1.cell? ⟨w.heap.size,1,Y⟩=some (J hN l.toNat)/\w1.cell? ⟨w.heap.size,2,Y⟩=some (hK a0 r.length c0):=⟨(aa HR.o 0).trans rfl,(aa HR.o 1).trans rfl,(aa HR.o 2).trans rfl⟩;go_cut [3] (λt wx=>∃T B:Nat,t=k5 (some ⟨T,0,Y⟩)/\Hid (wx.heap[T]?=some (k3 #[fs (some B),S (aK r),hK Y 0 0,J U (br r),J hN k.toNat] 208 (0,0)))/\Hid (aP wx B [])/\Hid (w.heap.size+2<=B/\w.heap.size+2<=T)/\Hid (kt (w.heap.size+2) w1 wx))
 case first=>
  have a1:Hid (kt (w.heap.size+2) w1 w1.drew):=(kq _ w1).drew
  have HC:Hid (∀W,kt (w.heap.size+2) w1 W->W.cell? ⟨w.heap.size,0,Y⟩=some (J hN k.toNat)/\W.cell? ⟨w.heap.size,1,Y⟩=some (J hN l.toNat)/\W.cell? ⟨w.heap.size,2,Y⟩=some (hK a0 r.length c0)):=λW D=>
   ⟨(aa ((D.block _ (by omega)).trans HR.o) 0).trans rfl,(aa ((D.block _ (by omega)).trans HR.o) 1).trans rfl,(aa ((D.block _ (by omega)).trans HR.o) 2).trans rfl⟩
  clear r0 r1 r2;refine wT (λW=>kt (w.heap.size+2) w1 W) 999 ?_;refine Qd [1,3,5,6] a1.o HC ?_;obtain⟨H,hn⟩:=Qe w1.drew;rw[hn]at a1 ⊢;clear hn;have j2:= @run_makeMap prog;refine mZ (i:=0) (j:=2) (k:=8) rfl rfl rfl (by kernel_rfl) rfl rfl rfl (λK o=>?_) (λK o=>?_) (λK o=>?_)
  .skip;go_simp;have bb:Hid (aP (H.alloc (.map #[] 0)) H.heap.size []/\w.heap.size+2<=H.heap.size):=⟨du _,(by have:=y.o;have:=a1.o.size;omega)⟩;have ac:Hid (kt (w.heap.size+2) w1 (H.alloc (.map #[] 0))):=a1.o.alloc (by have:=y.o;have:=a1.o.size;omega) _;refine o _ _ (λ_=>ac.o) ?_;clear o K;generalize H.alloc (.map #[] 0)=W0 at*;refine bZ (i:=2) (j:=8) rfl rfl (by kernel_rfl) rfl rfl (λK o=>?_) (λK o=>?_)
   .skip;go_simp;go_at_call 178;refine kb (HT _ (F.trans (ac.mono (kc _ _)))) ?_;rintro e W1⟨rfl,aS⟩;have ad:=Z (btr ac.o aS (by have:=y.o;have:=ac.o.size;omega));have bc:=Z (⟨bb.1.block (aS.block _ bb.1.lt),bb.2⟩:aP W1 _ []/\_);clear aS;refine o _ _ (λ_=>ad.o) ?_;clear o K;refine bZ (i:=4) (j:=8) rfl rfl (by kernel_rfl) rfl rfl (λK o=>?_) (λK o=>?_)
    .skip;go_simp;go_at_call 179;refine kb (HY _ (F.trans (ad.mono (kc _ _)))) ?_;rintro e W2⟨rfl,ch⟩;have bv:=Z (btr ad.o ch (by have:=y.o;have:=ad.o.size;omega));have gf:=Z (⟨bc.1.block (ch.block _ bc.1.lt),bc.2⟩:aP W2 _ []/\_);clear ch;refine o _ _ (λ_=>bv.o) ?_;clear o K;refine Qc [7] bv.o ?_
     refine Dp 8 λK o=>?_;go_simp;have h6:Hid ((W2.alloc (k3 #[fs Y,S [],hK Y 0 0,J U 0,J hN 0] 208)).heap[W2.heap.size]?=some (k3 #[fs Y,S [],hK Y 0 0,J U 0,J hN 0] 208 (0,0))/\w.heap.size+2<=W2.heap.size):=⟨ka _ _,(by have:=y.o;have:=bv.o.size;omega)⟩;have gq:Hid (kt (w.heap.size+2) w1 (W2.alloc (k3 #[fs Y,S [],hK Y 0 0,J U 0,J hN 0] 208))):=bv.o.alloc (by have:=y.o;have:=bv.o.size;omega) _;have d9:=Z (⟨gf.1.alloc _,gf.2⟩:aP (W2.alloc (k3 #[fs Y,S [],hK Y 0 0,J U 0,J hN 0] 208)) _ []/\_);refine o _ _ (λ_=>gq.o) ?_;clear o K;generalize W2.alloc (k3 #[fs Y,S [],hK Y 0 0,J U 0,J hN 0] 208)=W3 at*;have m:=h6.1;have f0:=ab m 0;have f1:=ab m 1;have O:=ab m 2;have f3:=ab m 3;have f4:=ab m 4;have Q:=(aa m 0).trans rfl;have V:=(aa m 1).trans rfl;have x2:=(aa m 2).trans rfl;have x3:=(aa m 3).trans rfl;have x4:=(aa m 4).trans rfl;clear m;refine Dp 9 λK o=>?_;go_simp;have z:=eu (a:=fs (some H.heap.size)) (b:=S (aK r)) (c:=hK Y 0 0) (d:=J U (br r)) (e:=J hN k.toNat) h6.o d9.o gq.o _ rfl;refine o _ _ (λ_=>z.2.2.2) ?_;clear o K;refine dN ?_;have u:=Z z;clear z;go_wp2_with fail;go_meet;exact⟨_,_,rfl,u.1,u.2.1,u.2.2.1,u.2.2.2⟩
    skip;go_simp;have a9:Hid ((W1.alloc (k3 #[fs Y,S [],hK Y 0 0,J U 0,J hN 0] 208)).heap[W1.heap.size]?=some (k3 #[fs Y,S [],hK Y 0 0,J U 0,J hN 0] 208 (0,0))/\w.heap.size+2<=W1.heap.size):=⟨ka _ _,(by have:=y.o;have:=ad.o.size;omega)⟩;have c9:Hid (kt (w.heap.size+2) w1 (W1.alloc (k3 #[fs Y,S [],hK Y 0 0,J U 0,J hN 0] 208))):=ad.o.alloc (by have:=y.o;have:=ad.o.size;omega) _;have bk:=Z (⟨bc.1.alloc _,bc.2⟩:aP (W1.alloc (k3 #[fs Y,S [],hK Y 0 0,J U 0,J hN 0] 208)) _ []/\_);refine o _ _ (λ_=>c9.o) ?_;clear o K;generalize W1.alloc (k3 #[fs Y,S [],hK Y 0 0,J U 0,J hN 0] 208)=W4 at*;refine Dp 4 λK o=>?_;go_simp;go_at_call 179;refine kb (HY _ (F.trans (c9.mono (kc _ _)))) ?_;rintro e W5⟨rfl,aT⟩;have e9:=Z (btr c9.o aT (by have:=y.o;have:=c9.o.size;omega));have hV:=Z (⟨bk.1.block (aT.block _ bk.1.lt),bk.2⟩:aP W5 _ []/\_);have h9:=Z (⟨(aT.block _ (ae a9.1)).trans a9.1,a9.2⟩:W5.heap[_]?=_/\_);clear aT;refine o _ _ (λ_=>e9.o) ?_;clear o K;refine Qc [7] e9.o ?_
    have m:=h9.1;have f0:=ab m 0;have f1:=ab m 1;have O:=ab m 2;have f3:=ab m 3;have f4:=ab m 4;have Q:=(aa m 0).trans rfl;have V:=(aa m 1).trans rfl;have x2:=(aa m 2).trans rfl;have x3:=(aa m 3).trans rfl;have x4:=(aa m 4).trans rfl;clear m;refine Dp 9 λK o=>?_;go_simp;have z:=eu (a:=fs (some H.heap.size)) (b:=S (aK r)) (c:=hK Y 0 0) (d:=J U (br r)) (e:=J hN k.toNat) h9.o hV.o e9.o _ rfl;refine o _ _ (λ_=>z.2.2.2) ?_;clear o K;refine dN ?_;have u:=Z z;clear z;go_wp2_with fail;go_meet;exact⟨_,_,rfl,u.1,u.2.1,u.2.2.1,u.2.2.2⟩
   skip;go_simp;have f8:Hid ((W0.alloc (k3 #[fs Y,S [],hK Y 0 0,J U 0,J hN 0] 208)).heap[W0.heap.size]?=some (k3 #[fs Y,S [],hK Y 0 0,J U 0,J hN 0] 208 (0,0))/\w.heap.size+2<=W0.heap.size):=⟨ka _ _,(by have:=y.o;have:=ac.o.size;omega)⟩;have cb:Hid (kt (w.heap.size+2) w1 (W0.alloc (k3 #[fs Y,S [],hK Y 0 0,J U 0,J hN 0] 208))):=ac.o.alloc (by have:=y.o;have:=ac.o.size;omega) _;have ds:=Z (⟨bb.1.alloc _,bb.2⟩:aP (W0.alloc (k3 #[fs Y,S [],hK Y 0 0,J U 0,J hN 0] 208)) _ []/\_);refine o _ _ (λ_=>cb.o) ?_;clear o K;generalize W0.alloc (k3 #[fs Y,S [],hK Y 0 0,J U 0,J hN 0] 208)=W6 at*;refine Dp 2 λK o=>?_;go_simp;go_at_call 178;refine kb (HT _ (F.trans (cb.mono (kc _ _)))) ?_;rintro e W7⟨rfl,cu⟩;have cc:=Z (btr cb.o cu (by have:=y.o;have:=cb.o.size;omega));have dx:=Z (⟨ds.1.block (cu.block _ ds.1.lt),ds.2⟩:aP W7 _ []/\_);have f9:=Z (⟨(cu.block _ (ae f8.1)).trans f8.1,f8.2⟩:W7.heap[_]?=_/\_);clear cu;refine o _ _ (λ_=>cc.o) ?_;clear o K;refine Dp 4 λK o=>?_;go_simp;go_at_call 179;refine kb (HY _ (F.trans (cc.mono (kc _ _)))) ?_;rintro e W8⟨rfl,cv⟩;have eg:=Z (btr cc.o cv (by have:=y.o;have:=cc.o.size;omega));have hW:=Z (⟨dx.1.block (cv.block _ dx.1.lt),dx.2⟩:aP W8 _ []/\_);have ha:=Z (⟨(cv.block _ (ae f9.1)).trans f9.1,f9.2⟩:W8.heap[_]?=_/\_);clear cv;refine o _ _ (λ_=>eg.o) ?_;clear o K;refine Qc [7] eg.o ?_
   have m:=ha.1;have f0:=ab m 0;have f1:=ab m 1;have O:=ab m 2;have f3:=ab m 3;have f4:=ab m 4;have Q:=(aa m 0).trans rfl;have V:=(aa m 1).trans rfl;have x2:=(aa m 2).trans rfl;have x3:=(aa m 3).trans rfl;have x4:=(aa m 4).trans rfl;clear m;refine Dp 9 λK o=>?_;go_simp;have z:=eu (a:=fs (some H.heap.size)) (b:=S (aK r)) (c:=hK Y 0 0) (d:=J U (br r)) (e:=J hN k.toNat) ha.o hW.o eg.o _ rfl;refine o _ _ (λ_=>z.2.2.2) ?_;clear o K;refine dN ?_;have u:=Z z;clear z;go_wp2_with fail;go_meet;exact⟨_,_,rfl,u.1,u.2.1,u.2.2.1,u.2.2.2⟩
  .skip;go_simp;go_at_call 178;refine kb (HT _ (F.trans (a1.mono (kc _ _)))) ?_;rintro e N⟨rfl,ht⟩;have a3:=Z (btr a1.o ht (by have:=y.o;have:=a1.o.size;omega));clear ht;refine o _ _ (λ_=>a3.o) ?_;clear o K;refine mZ (i:=0) (j:=4) (k:=8) rfl rfl rfl (by kernel_rfl) rfl rfl rfl (λK o=>?_) (λK o=>?_) (λK o=>?_)
   .skip;go_simp;have bd:Hid (aP (N.alloc (.map #[] 0)) N.heap.size []/\w.heap.size+2<=N.heap.size):=⟨du _,(by have:=y.o;have:=a3.o.size;omega)⟩;have al:Hid (kt (w.heap.size+2) w1 (N.alloc (.map #[] 0))):=a3.o.alloc (by have:=y.o;have:=a3.o.size;omega) _;refine o _ _ (λ_=>al.o) ?_;clear o K;generalize N.alloc (.map #[] 0)=W10 at*;refine bZ (i:=4) (j:=8) rfl rfl (by kernel_rfl) rfl rfl (λK o=>?_) (λK o=>?_)
    .skip;go_simp;go_at_call 179;refine kb (HY _ (F.trans (al.mono (kc _ _)))) ?_;rintro e aC⟨rfl,fb⟩;have bl:=Z (btr al.o fb (by have:=y.o;have:=al.o.size;omega));have g9:=Z (⟨bd.1.block (fb.block _ bd.1.lt),bd.2⟩:aP aC _ []/\_);clear fb;refine o _ _ (λ_=>bl.o) ?_;clear o K;refine Qc [7] bl.o ?_
     refine Dp 8 λK o=>?_;go_simp;have gP:Hid ((aC.alloc (k3 #[fs Y,S [],hK Y 0 0,J U 0,J hN 0] 208)).heap[aC.heap.size]?=some (k3 #[fs Y,S [],hK Y 0 0,J U 0,J hN 0] 208 (0,0))/\w.heap.size+2<=aC.heap.size):=⟨ka _ _,(by have:=y.o;have:=bl.o.size;omega)⟩;have gn:Hid (kt (w.heap.size+2) w1 (aC.alloc (k3 #[fs Y,S [],hK Y 0 0,J U 0,J hN 0] 208))):=bl.o.alloc (by have:=y.o;have:=bl.o.size;omega) _;have hG:=Z (⟨g9.1.alloc _,g9.2⟩:aP (aC.alloc (k3 #[fs Y,S [],hK Y 0 0,J U 0,J hN 0] 208)) _ []/\_);refine o _ _ (λ_=>gn.o) ?_;clear o K;generalize aC.alloc (k3 #[fs Y,S [],hK Y 0 0,J U 0,J hN 0] 208)=W12 at*;have m:=gP.1;have f0:=ab m 0;have f1:=ab m 1;have O:=ab m 2;have f3:=ab m 3;have f4:=ab m 4;have Q:=(aa m 0).trans rfl;have V:=(aa m 1).trans rfl;have x2:=(aa m 2).trans rfl;have x3:=(aa m 3).trans rfl;have x4:=(aa m 4).trans rfl;clear m;refine Dp 9 λK o=>?_;go_simp;have z:=eu (a:=fs (some N.heap.size)) (b:=S (aK r)) (c:=hK Y 0 0) (d:=J U (br r)) (e:=J hN k.toNat) gP.o hG.o gn.o _ rfl;refine o _ _ (λ_=>z.2.2.2) ?_;clear o K;refine dN ?_;have u:=Z z;clear z;go_wp2_with fail;go_meet;exact⟨_,_,rfl,u.1,u.2.1,u.2.2.1,u.2.2.2⟩
    skip;go_simp;have eq:Hid ((W10.alloc (k3 #[fs Y,S [],hK Y 0 0,J U 0,J hN 0] 208)).heap[W10.heap.size]?=some (k3 #[fs Y,S [],hK Y 0 0,J U 0,J hN 0] 208 (0,0))/\w.heap.size+2<=W10.heap.size):=⟨ka _ _,(by have:=y.o;have:=al.o.size;omega)⟩;have c1:Hid (kt (w.heap.size+2) w1 (W10.alloc (k3 #[fs Y,S [],hK Y 0 0,J U 0,J hN 0] 208))):=al.o.alloc (by have:=y.o;have:=al.o.size;omega) _;have d5:=Z (⟨bd.1.alloc _,bd.2⟩:aP (W10.alloc (k3 #[fs Y,S [],hK Y 0 0,J U 0,J hN 0] 208)) _ []/\_);refine o _ _ (λ_=>c1.o) ?_;clear o K;generalize W10.alloc (k3 #[fs Y,S [],hK Y 0 0,J U 0,J hN 0] 208)=W13 at*;refine Dp 4 λK o=>?_;go_simp;go_at_call 179;refine kb (HY _ (F.trans (c1.mono (kc _ _)))) ?_;rintro e he⟨rfl,cg⟩;have dy:=Z (btr c1.o cg (by have:=y.o;have:=c1.o.size;omega));have hH:=Z (⟨d5.1.block (cg.block _ d5.1.lt),d5.2⟩:aP he _ []/\_);have gQ:=Z (⟨(cg.block _ (ae eq.1)).trans eq.1,eq.2⟩:he.heap[_]?=_/\_);clear cg;refine o _ _ (λ_=>dy.o) ?_;clear o K;refine Qc [7] dy.o ?_
    have m:=gQ.1;have f0:=ab m 0;have f1:=ab m 1;have O:=ab m 2;have f3:=ab m 3;have f4:=ab m 4;have Q:=(aa m 0).trans rfl;have V:=(aa m 1).trans rfl;have x2:=(aa m 2).trans rfl;have x3:=(aa m 3).trans rfl;have x4:=(aa m 4).trans rfl;clear m;refine Dp 9 λK o=>?_;go_simp;have z:=eu (a:=fs (some N.heap.size)) (b:=S (aK r)) (c:=hK Y 0 0) (d:=J U (br r)) (e:=J hN k.toNat) gQ.o hH.o dy.o _ rfl;refine o _ _ (λ_=>z.2.2.2) ?_;clear o K;refine dN ?_;have u:=Z z;clear z;go_wp2_with fail;go_meet;exact⟨_,_,rfl,u.1,u.2.1,u.2.2.1,u.2.2.2⟩
   .skip;go_simp;go_at_call 179;refine kb (HY _ (F.trans (a3.mono (kc _ _)))) ?_;rintro e a2⟨rfl,ho⟩;have ao:=Z (btr a3.o ho (by have:=y.o;have:=a3.o.size;omega));clear ho;refine o _ _ (λ_=>ao.o) ?_;clear o K;refine bZ (i:=0) (j:=8) rfl rfl (by kernel_rfl) rfl rfl (λK o=>?_) (λK o=>?_)
    .skip;go_simp;have gb:Hid (aP (a2.alloc (.map #[] 0)) a2.heap.size []/\w.heap.size+2<=a2.heap.size):=⟨du _,(by have:=y.o;have:=ao.o.size;omega)⟩;have bt:Hid (kt (w.heap.size+2) w1 (a2.alloc (.map #[] 0))):=ao.o.alloc (by have:=y.o;have:=ao.o.size;omega) _;refine o _ _ (λ_=>bt.o) ?_;clear o K;generalize a2.alloc (.map #[] 0)=W16 at*;refine Qc [7] bt.o ?_
     refine Dp 8 λK o=>?_;go_simp;have h0:Hid ((W16.alloc (k3 #[fs Y,S [],hK Y 0 0,J U 0,J hN 0] 208)).heap[W16.heap.size]?=some (k3 #[fs Y,S [],hK Y 0 0,J U 0,J hN 0] 208 (0,0))/\w.heap.size+2<=W16.heap.size):=⟨ka _ _,(by have:=y.o;have:=bt.o.size;omega)⟩;have gp:Hid (kt (w.heap.size+2) w1 (W16.alloc (k3 #[fs Y,S [],hK Y 0 0,J U 0,J hN 0] 208))):=bt.o.alloc (by have:=y.o;have:=bt.o.size;omega) _;have hJ:=Z (⟨gb.1.alloc _,gb.2⟩:aP (W16.alloc (k3 #[fs Y,S [],hK Y 0 0,J U 0,J hN 0] 208)) _ []/\_);refine o _ _ (λ_=>gp.o) ?_;clear o K;generalize W16.alloc (k3 #[fs Y,S [],hK Y 0 0,J U 0,J hN 0] 208)=W17 at*;have m:=h0.1;have f0:=ab m 0;have f1:=ab m 1;have O:=ab m 2;have f3:=ab m 3;have f4:=ab m 4;have Q:=(aa m 0).trans rfl;have V:=(aa m 1).trans rfl;have x2:=(aa m 2).trans rfl;have x3:=(aa m 3).trans rfl;have x4:=(aa m 4).trans rfl;clear m;refine Dp 9 λK o=>?_;go_simp;have z:=eu (a:=fs (some a2.heap.size)) (b:=S (aK r)) (c:=hK Y 0 0) (d:=J U (br r)) (e:=J hN k.toNat) h0.o hJ.o gp.o _ rfl;refine o _ _ (λ_=>z.2.2.2) ?_;clear o K;refine dN ?_;have u:=Z z;clear z;go_wp2_with fail;go_meet;exact⟨_,_,rfl,u.1,u.2.1,u.2.2.1,u.2.2.2⟩
    skip;go_simp;have er:Hid ((a2.alloc (k3 #[fs Y,S [],hK Y 0 0,J U 0,J hN 0] 208)).heap[a2.heap.size]?=some (k3 #[fs Y,S [],hK Y 0 0,J U 0,J hN 0] 208 (0,0))/\w.heap.size+2<=a2.heap.size):=⟨ka _ _,(by have:=y.o;have:=ao.o.size;omega)⟩;have c2:Hid (kt (w.heap.size+2) w1 (a2.alloc (k3 #[fs Y,S [],hK Y 0 0,J U 0,J hN 0] 208))):=ao.o.alloc (by have:=y.o;have:=ao.o.size;omega) _;refine o _ _ (λ_=>c2.o) ?_;clear o K;generalize a2.alloc (k3 #[fs Y,S [],hK Y 0 0,J U 0,J hN 0] 208)=W18 at*;refine Dp 0 λK o=>?_;go_simp;have hL:Hid (aP (W18.alloc (.map #[] 0)) W18.heap.size []/\w.heap.size+2<=W18.heap.size):=⟨du _,(by have:=y.o;have:=c2.o.size;omega)⟩;have dz:Hid (kt (w.heap.size+2) w1 (W18.alloc (.map #[] 0))):=c2.o.alloc (by have:=y.o;have:=c2.o.size;omega) _;have h2:=Z (⟨(kd W18 (.map #[] 0) _ (ae er.1)).trans er.1,er.2⟩:(W18.alloc (.map #[] 0)).heap[_]?=_/\_);refine o _ _ (λ_=>dz.o) ?_;clear o K;generalize W18.alloc (.map #[] 0)=W19 at*;refine Qc [7] dz.o ?_
    have m:=h2.1;have f0:=ab m 0;have f1:=ab m 1;have O:=ab m 2;have f3:=ab m 3;have f4:=ab m 4;have Q:=(aa m 0).trans rfl;have V:=(aa m 1).trans rfl;have x2:=(aa m 2).trans rfl;have x3:=(aa m 3).trans rfl;have x4:=(aa m 4).trans rfl;clear m;refine Dp 9 λK o=>?_;go_simp;have z:=eu (a:=fs (some W18.heap.size)) (b:=S (aK r)) (c:=hK Y 0 0) (d:=J U (br r)) (e:=J hN k.toNat) h2.o hL.o dz.o _ rfl;refine o _ _ (λ_=>z.2.2.2) ?_;clear o K;refine dN ?_;have u:=Z z;clear z;go_wp2_with fail;go_meet;exact⟨_,_,rfl,u.1,u.2.1,u.2.2.1,u.2.2.2⟩
   skip;go_simp;have b3:Hid ((N.alloc (k3 #[fs Y,S [],hK Y 0 0,J U 0,J hN 0] 208)).heap[N.heap.size]?=some (k3 #[fs Y,S [],hK Y 0 0,J U 0,J hN 0] 208 (0,0))/\w.heap.size+2<=N.heap.size):=⟨ka _ _,(by have:=y.o;have:=a3.o.size;omega)⟩;have au:Hid (kt (w.heap.size+2) w1 (N.alloc (k3 #[fs Y,S [],hK Y 0 0,J U 0,J hN 0] 208))):=a3.o.alloc (by have:=y.o;have:=a3.o.size;omega) _;refine o _ _ (λ_=>au.o) ?_;clear o K;generalize N.alloc (k3 #[fs Y,S [],hK Y 0 0,J U 0,J hN 0] 208)=W20 at*;refine bZ (i:=0) (j:=4) rfl rfl (by kernel_rfl) rfl rfl (λK o=>?_) (λK o=>?_)
   .skip;go_simp;have d6:Hid (aP (W20.alloc (.map #[] 0)) W20.heap.size []/\w.heap.size+2<=W20.heap.size):=⟨du _,(by have:=y.o;have:=au.o.size;omega)⟩;have c3:Hid (kt (w.heap.size+2) w1 (W20.alloc (.map #[] 0))):=au.o.alloc (by have:=y.o;have:=au.o.size;omega) _;have es:=Z (⟨(kd W20 (.map #[] 0) _ (ae b3.1)).trans b3.1,b3.2⟩:(W20.alloc (.map #[] 0)).heap[_]?=_/\_);refine o _ _ (λ_=>c3.o) ?_;clear o K;generalize W20.alloc (.map #[] 0)=W21 at*;refine Dp 4 λK o=>?_;go_simp;go_at_call 179;refine kb (HY _ (F.trans (c3.mono (kc _ _)))) ?_;rintro e hf⟨rfl,cl⟩;have e4:=Z (btr c3.o cl (by have:=y.o;have:=c3.o.size;omega));have hM:=Z (⟨d6.1.block (cl.block _ d6.1.lt),d6.2⟩:aP hf _ []/\_);have h3:=Z (⟨(cl.block _ (ae es.1)).trans es.1,es.2⟩:hf.heap[_]?=_/\_);clear cl;refine o _ _ (λ_=>e4.o) ?_;clear o K;refine Qc [7] e4.o ?_
    have m:=h3.1;have f0:=ab m 0;have f1:=ab m 1;have O:=ab m 2;have f3:=ab m 3;have f4:=ab m 4;have Q:=(aa m 0).trans rfl;have V:=(aa m 1).trans rfl;have x2:=(aa m 2).trans rfl;have x3:=(aa m 3).trans rfl;have x4:=(aa m 4).trans rfl;clear m;refine Dp 9 λK o=>?_;go_simp;have z:=eu (a:=fs (some W20.heap.size)) (b:=S (aK r)) (c:=hK Y 0 0) (d:=J U (br r)) (e:=J hN k.toNat) h3.o hM.o e4.o _ rfl;refine o _ _ (λ_=>z.2.2.2) ?_;clear o K;refine dN ?_;have u:=Z z;clear z;go_wp2_with fail;go_meet;exact⟨_,_,rfl,u.1,u.2.1,u.2.2.1,u.2.2.2⟩
   skip;go_simp;go_at_call 179;refine kb (HY _ (F.trans (au.mono (kc _ _)))) ?_;rintro e a5⟨rfl,fc⟩;have c4:=Z (btr au.o fc (by have:=y.o;have:=au.o.size;omega));have ex:=Z (⟨(fc.block _ (ae b3.1)).trans b3.1,b3.2⟩:a5.heap[_]?=_/\_);clear fc;refine o _ _ (λ_=>c4.o) ?_;clear o K;refine Dp 0 λK o=>?_;go_simp;have hO:Hid (aP (a5.alloc (.map #[] 0)) a5.heap.size []/\w.heap.size+2<=a5.heap.size):=⟨du _,(by have:=y.o;have:=c4.o.size;omega)⟩;have e5:Hid (kt (w.heap.size+2) w1 (a5.alloc (.map #[] 0))):=c4.o.alloc (by have:=y.o;have:=c4.o.size;omega) _;have h4:=Z (⟨(kd a5 (.map #[] 0) _ (ae ex.1)).trans ex.1,ex.2⟩:(a5.alloc (.map #[] 0)).heap[_]?=_/\_);refine o _ _ (λ_=>e5.o) ?_;clear o K;generalize a5.alloc (.map #[] 0)=W24 at*;refine Qc [7] e5.o ?_
   have m:=h4.1;have f0:=ab m 0;have f1:=ab m 1;have O:=ab m 2;have f3:=ab m 3;have f4:=ab m 4;have Q:=(aa m 0).trans rfl;have V:=(aa m 1).trans rfl;have x2:=(aa m 2).trans rfl;have x3:=(aa m 3).trans rfl;have x4:=(aa m 4).trans rfl;clear m;refine Dp 9 λK o=>?_;go_simp;have z:=eu (a:=fs (some a5.heap.size)) (b:=S (aK r)) (c:=hK Y 0 0) (d:=J U (br r)) (e:=J hN k.toNat) h4.o hO.o e5.o _ rfl;refine o _ _ (λ_=>z.2.2.2) ?_;clear o K;refine dN ?_;have u:=Z z;clear z;go_wp2_with fail;go_meet;exact⟨_,_,rfl,u.1,u.2.1,u.2.2.1,u.2.2.2⟩
  skip;go_simp;have b4:Hid ((H.alloc (k3 #[fs Y,S [],hK Y 0 0,J U 0,J hN 0] 208)).heap[H.heap.size]?=some (k3 #[fs Y,S [],hK Y 0 0,J U 0,J hN 0] 208 (0,0))/\w.heap.size+2<=H.heap.size):=⟨ka _ _,(by have:=y.o;have:=a1.o.size;omega)⟩;have av:Hid (kt (w.heap.size+2) w1 (H.alloc (k3 #[fs Y,S [],hK Y 0 0,J U 0,J hN 0] 208))):=a1.o.alloc (by have:=y.o;have:=a1.o.size;omega) _;refine o _ _ (λ_=>av.o) ?_;clear o K;generalize H.alloc (k3 #[fs Y,S [],hK Y 0 0,J U 0,J hN 0] 208)=W25 at*;refine bZ (i:=0) (j:=2) rfl rfl (by kernel_rfl) rfl rfl (λK o=>?_) (λK o=>?_)
  .skip;go_simp;have d7:Hid (aP (W25.alloc (.map #[] 0)) W25.heap.size []/\w.heap.size+2<=W25.heap.size):=⟨du _,(by have:=y.o;have:=av.o.size;omega)⟩;have c5:Hid (kt (w.heap.size+2) w1 (W25.alloc (.map #[] 0))):=av.o.alloc (by have:=y.o;have:=av.o.size;omega) _;have eQ:=Z (⟨(kd W25 (.map #[] 0) _ (ae b4.1)).trans b4.1,b4.2⟩:(W25.alloc (.map #[] 0)).heap[_]?=_/\_);refine o _ _ (λ_=>c5.o) ?_;clear o K;generalize W25.alloc (.map #[] 0)=W26 at*;refine Dp 2 λK o=>?_;go_simp;go_at_call 178;refine kb (HT _ (F.trans (c5.mono (kc _ _)))) ?_;rintro e hh⟨rfl,cm⟩;have c6:=Z (btr c5.o cm (by have:=y.o;have:=c5.o.size;omega));have d8:=Z (⟨d7.1.block (cm.block _ d7.1.lt),d7.2⟩:aP hh _ []/\_);have f5:=Z (⟨(cm.block _ (ae eQ.1)).trans eQ.1,eQ.2⟩:hh.heap[_]?=_/\_);clear cm;refine o _ _ (λ_=>c6.o) ?_;clear o K;refine Dp 4 λK o=>?_;go_simp;go_at_call 179;refine kb (HY _ (F.trans (c6.mono (kc _ _)))) ?_;rintro e hi⟨rfl,cn⟩;have e6:=Z (btr c6.o cn (by have:=y.o;have:=c6.o.size;omega));have hP:=Z (⟨d8.1.block (cn.block _ d8.1.lt),d8.2⟩:aP hi _ []/\_);have h5:=Z (⟨(cn.block _ (ae f5.1)).trans f5.1,f5.2⟩:hi.heap[_]?=_/\_);clear cn;refine o _ _ (λ_=>e6.o) ?_;clear o K;refine Qc [7] e6.o ?_
   have m:=h5.1;have f0:=ab m 0;have f1:=ab m 1;have O:=ab m 2;have f3:=ab m 3;have f4:=ab m 4;have Q:=(aa m 0).trans rfl;have V:=(aa m 1).trans rfl;have x2:=(aa m 2).trans rfl;have x3:=(aa m 3).trans rfl;have x4:=(aa m 4).trans rfl;clear m;refine Dp 9 λK o=>?_;go_simp;have z:=eu (a:=fs (some W25.heap.size)) (b:=S (aK r)) (c:=hK Y 0 0) (d:=J U (br r)) (e:=J hN k.toNat) h5.o hP.o e6.o _ rfl;refine o _ _ (λ_=>z.2.2.2) ?_;clear o K;refine dN ?_;have u:=Z z;clear z;go_wp2_with fail;go_meet;exact⟨_,_,rfl,u.1,u.2.1,u.2.2.1,u.2.2.2⟩
  skip;go_simp;go_at_call 178;refine kb (HT _ (F.trans (av.mono (kc _ _)))) ?_;rintro e a6⟨rfl,fl⟩;have ax:=Z (btr av.o fl (by have:=y.o;have:=av.o.size;omega));have b5:=Z (⟨(fl.block _ (ae b4.1)).trans b4.1,b4.2⟩:a6.heap[_]?=_/\_);clear fl;refine o _ _ (λ_=>ax.o) ?_;clear o K;refine bZ (i:=0) (j:=4) rfl rfl (by kernel_rfl) rfl rfl (λK o=>?_) (λK o=>?_)
  .skip;go_simp;have dk:Hid (aP (a6.alloc (.map #[] 0)) a6.heap.size []/\w.heap.size+2<=a6.heap.size):=⟨du _,(by have:=y.o;have:=ax.o.size;omega)⟩;have c7:Hid (kt (w.heap.size+2) w1 (a6.alloc (.map #[] 0))):=ax.o.alloc (by have:=y.o;have:=ax.o.size;omega) _;have f6:=Z (⟨(kd a6 (.map #[] 0) _ (ae b5.1)).trans b5.1,b5.2⟩:(a6.alloc (.map #[] 0)).heap[_]?=_/\_);refine o _ _ (λ_=>c7.o) ?_;clear o K;generalize a6.alloc (.map #[] 0)=W30 at*;refine Dp 4 λK o=>?_;go_simp;go_at_call 179;refine kb (HY _ (F.trans (c7.mono (kc _ _)))) ?_;rintro e hj⟨rfl,cp⟩;have e7:=Z (btr c7.o cp (by have:=y.o;have:=c7.o.size;omega));have hQ:=Z (⟨dk.1.block (cp.block _ dk.1.lt),dk.2⟩:aP hj _ []/\_);have h7:=Z (⟨(cp.block _ (ae f6.1)).trans f6.1,f6.2⟩:hj.heap[_]?=_/\_);clear cp;refine o _ _ (λ_=>e7.o) ?_;clear o K;refine Qc [7] e7.o ?_
   have m:=h7.1;have f0:=ab m 0;have f1:=ab m 1;have O:=ab m 2;have f3:=ab m 3;have f4:=ab m 4;have Q:=(aa m 0).trans rfl;have V:=(aa m 1).trans rfl;have x2:=(aa m 2).trans rfl;have x3:=(aa m 3).trans rfl;have x4:=(aa m 4).trans rfl;clear m;refine Dp 9 λK o=>?_;go_simp;have z:=eu (a:=fs (some a6.heap.size)) (b:=S (aK r)) (c:=hK Y 0 0) (d:=J U (br r)) (e:=J hN k.toNat) h7.o hQ.o e7.o _ rfl;refine o _ _ (λ_=>z.2.2.2) ?_;clear o K;refine dN ?_;have u:=Z z;clear z;go_wp2_with fail;go_meet;exact⟨_,_,rfl,u.1,u.2.1,u.2.2.1,u.2.2.2⟩
  skip;go_simp;go_at_call 179;refine kb (HY _ (F.trans (ax.mono (kc _ _)))) ?_;rintro e a7⟨rfl,fp⟩;have c8:=Z (btr ax.o fp (by have:=y.o;have:=ax.o.size;omega));have f7:=Z (⟨(fp.block _ (ae b5.1)).trans b5.1,b5.2⟩:a7.heap[_]?=_/\_);clear fp;refine o _ _ (λ_=>c8.o) ?_;clear o K;refine Dp 0 λK o=>?_;go_simp;have hS:Hid (aP (a7.alloc (.map #[] 0)) a7.heap.size []/\w.heap.size+2<=a7.heap.size):=⟨du _,(by have:=y.o;have:=c8.o.size;omega)⟩;have e8:Hid (kt (w.heap.size+2) w1 (a7.alloc (.map #[] 0))):=c8.o.alloc (by have:=y.o;have:=c8.o.size;omega) _;have h8:=Z (⟨(kd a7 (.map #[] 0) _ (ae f7.1)).trans f7.1,f7.2⟩:(a7.alloc (.map #[] 0)).heap[_]?=_/\_);refine o _ _ (λ_=>e8.o) ?_;clear o K;generalize a7.alloc (.map #[] 0)=W33 at*;refine Qc [7] e8.o ?_
  have m:=h8.1;have f0:=ab m 0;have f1:=ab m 1;have O:=ab m 2;have f3:=ab m 3;have f4:=ab m 4;have Q:=(aa m 0).trans rfl;have V:=(aa m 1).trans rfl;have x2:=(aa m 2).trans rfl;have x3:=(aa m 3).trans rfl;have x4:=(aa m 4).trans rfl;clear m;refine Dp 9 λK o=>?_;go_simp;have z:=eu (a:=fs (some a7.heap.size)) (b:=S (aK r)) (c:=hK Y 0 0) (d:=J U (br r)) (e:=J hN k.toNat) h8.o hS.o e8.o _ rfl;refine o _ _ (λ_=>z.2.2.2) ?_;clear o K;refine dN ?_;have u:=Z z;clear z;go_wp2_with fail;go_meet;exact⟨_,_,rfl,u.1,u.2.1,u.2.2.1,u.2.2.2⟩
 obtain⟨T,B,rfl,hc,g5,b6,bB⟩:=hcut;have fx:OfS (w.heap.size+2) w1 T B #[fs (some B),S (aK r),hK Y 0 0,J U (br r),J hN k.toNat] wc []:=⟨bB.o,hc.o,g5.o,b6.o.1,b6.o.2,by have:=bB.o.size;have:=y.o;omega⟩;obtain⟨cs,fr⟩:∃cs:Array ky, #[fs (some B),S (aK r),hK Y 0 0,J U (br r),J hN k.toNat]=cs:=⟨_,rfl⟩;rw[fr]at fx;have g6:=Z fr;have i2:=Z fx;have hl:=(bB.o.block w.heap.size (by omega)).trans HR.o;have s2:wc.cell? ⟨w.heap.size,2,Y⟩=some (hK a0 r.length c0):=(aa hl 2).trans rfl;have g8:Hid (∀W bs,OfS (w.heap.size+2) w1 T B cs W bs->Bw w W):=λW bs h=>F.o.trans (h.b.mono (by omega));clear fx fr hl hc g5 bB r0 r1 r2;go_wp2_with fail;go_loopw [23] (λi wr=>∃q:Nat,q<=r.length/\i=J U q/\Hid (OfS (w.heap.size+2) w1 T B cs wr (booksR (r.take q)))) (λi _=>r.length-(intOf i).toNat)
 case atStart=>exact⟨0,Nat.zero_le _,rfl,i2.o.same (by simp[booksR])⟩
 obtain⟨q,hq,rfl,b2⟩:=hrel;by_cases hlt:q<r.length;rotate_left
 .have HE:Hid (booksR r=booksR (r.take q)):=by unfold Hid;rw[kx (by omega)]
  have b0:=g8 _ _ b2.o;have cy:=b2.same HE.o;have ej:=Z ((b2.o.b.block w.heap.size (by omega)).trans HR.o);have hd:=Z ((b2.o.b.block (w.heap.size+1) (by omega)).trans HZ.o);have r0:wr.cell? ⟨w.heap.size,0,Y⟩=some (J hN k.toNat):=(aa ej.o 0).trans rfl;have r1:wr.cell? ⟨w.heap.size,1,Y⟩=some (J hN l.toNat):=(aa ej.o 1).trans rfl;have r2:wr.cell? ⟨w.heap.size,2,Y⟩=some (hK a0 r.length c0):=(aa ej.o 2).trans rfl;have H1:=Z (HF wr b0);have hD:=Z b0;have bA:=Z cy;clear b0 cy;obtain⟨g,hg⟩:=Qe ((firstF r [49,48,48]).getD zeroF);obtain⟨tx,fy⟩:=Qe (textF (firstF r [49,48,48]) [97]);have fz:tx=textS g.subs [97]:=by rw[<- fy,<- hg,jV]
  rw[hg]at H1 ay;rw[fy]at ay g4;obtain⟨gt,gi,gd,gs⟩:=g;dsimp only at H1 ay fz;have H3:Hid (∀(W:ko)(d:ky),aw 0 W.heap.size W d gs->lk prog 183 #[.agg #[S gt,S gi,S gd,d],J hN 97] W λe w'=>e=k4 (S tx)/\Bw W w'):=λW d h=>by rw[fz];exact qU gt gi gd d gs 97 W h ay.1 ay.2.1
  have H4:Hid (∀W,lk prog 182 #[S tx] W λe w'=>∃v,e=k4 v/\w'.ownsRow W.heap.size 9 1 v (wordsR tx).length ((wordsR tx).map λs=>S s)/\Bw W w'):=λW=>vP tx ay.2.2 W;generalize(firstF r [49,48,48]).isSome=is1 at*;have j3:¬(w.heap.size+1=T):=by have:=b6.o.2;omega
  have j4:¬(T=w.heap.size+1):=by have:=b6.o.2;omega
  clear hg fy fz ay
  go_wp2_with (first
   |(go_at_call 181;((with_reducible refine kb H1.o ?_);rintro e M⟨⟨v,rfl,dd,rfl,b1⟩,E⟩;obtain⟨da,dc,rfl,_⟩:=id b1;have hY:=Z (b1.mono (kn 0) E.size);have d2:=Z E;clear b1 E))
   |(go_at_call 183;((with_reducible refine kb (H3.o _ _ (hY.o.up2 (bm _ _) (kn _))) ?_);rintro e w4⟨rfl,hr⟩;have d3:=Z ((bm M _).trans (hr.mono (by simp)));clear hr))
   |(go_at_call 182;((with_reducible refine kb (H4.o _) ?_);rintro e w5⟨v,rfl,ft,aT⟩;obtain⟨va,vc,rfl⟩:=aQ ft;have hX:=Z ft;have cq:Bw wr w5:=d2.o.trans ((d3.o.trans (aT.mono d3.o.size)).mono d2.o.size);have hA:=Z cq;have a8:=(cq.block _ (ae bA.o.t)).trans bA.o.t;rw[<- g6.o]at a8;have P:=(cq.block _ (ae hd.o)).trans hd.o;have O:=ab a8 2;have Q:=(aa a8 0).trans rfl;have V:=(aa a8 1).trans rfl;have x2:=(aa a8 2).trans rfl;have x3:=(aa a8 3).trans rfl;have x4:=(aa a8 4).trans rfl;have y0:=ab P 0;have y1:=ab P 1;have y2:=ab P 2;have y3:=ab P 3;have y4:=ab P 4;have u0:=(aa P 0).trans rfl;have u1:=(aa P 1).trans rfl;have u2:=(aa P 2).trans rfl;have u3:=(aa P 3).trans rfl;have u4:=(aa P 4).trans rfl;have iv:=Z a8;have iD:=Z P;clear aT cq a8 P ft)))
  refine bodyPost_ret (v:=.agg #[fs (some B),S (aK r),.slice va (wordsR tx).length vc,J U (br r),J hN k.toNat]) (by rw[cX rfl];go_simp) rfl ?_;refine⟨_,rfl,Cn bA.o hA.o hX.o g4.o b6.o hD.o (by have:=d3.o.size;have:=d2.o.size;have:=bA.o.sz;have:=ae bA.o.t;omega) _ _ _ _ _ _ _ rfl⟩
 have b0:=g8 _ _ b2.o;have hw:ag 0 w.heap.size wr (hK a0 r.length c0) r:=i0 _ b0;have k0:w.heap.size<=wr.heap.size:=b0.size;obtain⟨b,k1,iF,d,hv,aS,ch,e0,e1,e2,e3,b1⟩:=hw.field q hlt;cases hv;have L:=gO.2 _ (List.getElem_mem hlt);have HN:=Z (mV r q hlt);rw[ic]at HN;have jb:r[q].subs.length<=1000000:=k7 (ci _) L;have i1:Hid (∀s∈r[q].subs,s.text.length<=1000000):=λs hs=>iR L hs;obtain⟨da,dc,rfl,_⟩:=id b1;have i6:=Z b1;clear b1 hw L b0;generalize r[q].tag=TG at*;generalize r[q].ind=IN at*;generalize r[q].data=DT at*;generalize r[q].subs=ss at*;obtain⟨wq,cP⟩:=Qe (wr.alloc (k3 #[S TG,S IN,S DT,hK da ss.length dc] 123));have cx:Bw wr wq:=by rw[<- cP];exact(kq _ wr).alloc (kn _) _
 have hk:wq.heap[wr.heap.size]?=some (k3 #[S TG,S IN,S DT,hK da ss.length dc] 123 (0,0)):=by rw[<- cP];exact ka wr _
 have i4:=Z (b2.below cx);have i7:Hid (aw 0 w.heap.size wq (hK da ss.length dc) ss):=i6.o.kept (λk _ h=>cx.block k (by omega));have ia:=Z cP;have d4:=Z hk;have hB:=Z cx;obtain⟨R,hR⟩:=Qe wr.heap.size;clear cP hk cx;go_upto_region 5 with fail;rw[ia.o];rw[hR]at d4;have gy:=Z hR;clear hR;have g0:wq.cell? ⟨R,3,Y⟩=some (hK da ss.length dc):=(aa d4.o 3).trans rfl;go_wp2_with fail;go_loopw [30] (λj wx=>∃p:Nat,p<=ss.length/\j=J U p/\Hid (OfS (w.heap.size+2) w1 T B cs wx (booksR (r.take q)++bookS TG (ss.take p)))/\Hid (wx.heap[R]?=some (k3 #[S TG,S IN,S DT,hK da ss.length dc] 123 (0,0)))/\Hid (aw 0 w.heap.size wx (hK da ss.length dc) ss)/\R<=wx.heap.size/\w.heap.size<=R) (λj _=>ss.length-(intOf j).toNat)
 case atStart=>exact⟨0,Nat.zero_le _,rfl,i4.o.same (by unfold bookS;split<;>simp),d4,i7,by have:=hB.o.size;have:=gy.o;omega,by have:=gy.o;omega⟩
 obtain⟨p,hp,rfl,a4,G,bw,iQ,cz⟩:=hrel;by_cases hlp:p<ss.length;rotate_left
 .have HE:Hid (booksR (r.take (q+1))=booksR (r.take q)++bookS TG (ss.take p)):=by unfold Hid;rw[HN.o,show ss.take p=ss from kx (by omega)]
  go_wp2_with fail;go_roundw;exact⟨q+1,hlt,by go_num,a4.same HE.o⟩;simp[intOf];omega
 obtain⟨b',k2,iN,hv,_,iS,d0,d1⟩:=bw.sub p hlp;cases hv;have bY:=Z (gr TG ss p hlp);have jn:=i1 _ (List.getElem_mem hlp);generalize ss[p].code=C at*;generalize ss[p].text=X at*;have j0:b'<wr.heap.size:=by omega
 have gx:=Z (dl r q gO.o);have gz:Hid ((bookS TG (ss.take p)).length<=1000000):=by have h1:=fL TG (ss.take p);rw[k8]at h1;unfold Hid;omega
 obtain⟨LB,cd⟩:=Qe (booksR (r.take q)++bookS TG (ss.take p));have iP:LB.length<=2000000000000:=by have:=gx.o;have:=gz.o;rw[<- cd,kz];omega
 rw[cd]at a4;have bO:=Z cd;clear cd gx gz;cases hI:isbnR X with
 |none=>
  have b9:Hid (∀W,lk prog 180 #[S X] W λe w'=>e=k4 (.tuple #[S [],fn false])/\Bw W w'):=λW=>by have:=jF X W (by omega);rw[hI]at this;exact this
  have HE:Hid (booksR (r.take q)++bookS TG (ss.take (p+1))=LB):=by unfold Hid;rw[bY.o,hI,<- bO.o];split<;>simp
  clear hI;go_wp2_with (go_at_call 180;(refine kb (b9.o _) ?_;rintro e M⟨rfl,E⟩;have I:Bw wr M:=(bm wr _).trans (E.mono (by simp));have A:=Z I;clear I E))
  go_roundw;exact⟨p+1,hlp,by go_num,(a4.o.below A.o).same HE.o,(A.o.block _ (ae G.o)).trans G.o,bw.o.kept (λg _ hg=>A.o.block g (by omega)),by have:=A.o.size;omega,cz⟩;simp[intOf];omega
 |some n=>
  have b9:Hid (∀W,lk prog 180 #[S X] W λe w'=>e=k4 (.tuple #[S n,fn true])/\Bw W w'):=λW=>by have:=jF X W (by omega);rw[hI]at this;exact this
  have ja:n.length<=13:=ed hI;by_cases m:TG=[48,50,48];rotate_left
  .have HE:Hid (booksR (r.take q)++bookS TG (ss.take (p+1))=LB):=by unfold Hid;rw[bY.o,<- bO.o,if_neg (λh=>m h.1),List.append_nil]
   have b8:Hid (∀W,Bw wr W->W.cell? ⟨R,0,Y⟩=some (S TG)):=λW D=>(aa ((D.block _ (ae G.o)).trans G.o) 0).trans rfl;clear hI;go_wp2_with (go_at_call 180;(refine kb (b9.o _) ?_;rintro e M⟨rfl,E⟩;have I:Bw wr M:=(bm wr _).trans (E.mono (by simp));have r0:=b8.o M I;have z0:=((an E).1 wr.heap.size 0 (by simp));have A:=Z I;clear I E))
   go_roundw;exact⟨p+1,hlp,by go_num,(a4.o.below A.o).same HE.o,(A.o.block _ (ae G.o)).trans G.o,bw.o.kept (λg _ hg=>A.o.block g (by omega)),by have:=A.o.size;omega,cz⟩;simp[intOf];omega
  subst m;by_cases hC:C=97;rotate_left
  .have ib:((C.toNat:Int)==97)=false:=by have:C.toNat≠97:=λh=>hC (UInt8.toNat_inj.1 h);simp;omega
   have HE:Hid (booksR (r.take q)++bookS [48,50,48] (ss.take (p+1))=LB):=by unfold Hid;rw[bY.o,<- bO.o,if_neg (λh=>hC h.2),List.append_nil]
   have b8:Hid (∀W,Bw wr W->W.cell? ⟨R,0,Y⟩=some (S [48,50,48])):=λW D=>(aa ((D.block _ (ae G.o)).trans G.o) 0).trans rfl;clear hI hC;go_wp2_with (go_at_call 180;(refine kb (b9.o _) ?_;rintro e M⟨rfl,E⟩;have I:Bw wr M:=(bm wr _).trans (E.mono (by simp));have r0:=b8.o M I;have z0:=((an E).1 wr.heap.size 0 (by simp));have A:=Z I;clear I E))
   go_roundw;exact⟨p+1,hlp,by go_num,(a4.o.below A.o).same HE.o,(A.o.block _ (ae G.o)).trans G.o,bw.o.kept (λg _ hg=>A.o.block g (by omega)),by have:=A.o.size;omega,cz⟩;simp[intOf];omega
  have ib:((C.toNat:Int)==97)=true:=by rw[hC];rfl
  have HE:Hid (booksR (r.take q)++bookS [48,50,48] (ss.take (p+1))=LB++[n]):=by unfold Hid;rw[bY.o,hI,<- bO.o,if_pos ⟨rfl,hC⟩];simp
  obtain⟨lb,g1,g2,g3⟩:=a4.k;have g7:=Z g1;have hF:=Z g2;have b8:Hid (∀W,Bw wr W->W.cell? ⟨T,0,Y⟩=some (fs (some B))/\W.cell? ⟨R,0,Y⟩=some (S [48,50,48])):=λW D=>⟨by rw[aa ((D.block _ (ae a4.o.t)).trans a4.o.t),<- g6.o];rfl,(aa ((D.block _ (ae G.o)).trans G.o) 0).trans rfl⟩
  clear hI hC g1 g2
  go_wp2_with (first
   |(go_at_call 180;((with_reducible refine kb (b9.o _) ?_);rintro e M⟨rfl,E⟩;have I:Bw wr M:=(bm wr _).trans (E.mono (by simp));obtain⟨t0,r0⟩:=b8.o M I;have z0:=((an E).1 wr.heap.size 0 (by simp));have d9:Hid (ak tB M B (lb.map λs=>(s,fn true))):=g7.o.block (I.block _ g7.o.lt);have A:=Z I;clear I E))
   |(at_mapUpdate;refine uO _ rfl _ _ _ 206 rfl 4 underlying206 B _ rfl d9.o ?_ n ?_ rfl (fn true) rfl ?_;(focus (rw[List.length_map];unfold maxLen;omega));(focus (show n.length<=maxLen;unfold maxLen;omega));intro w4 hu hx;have bk:=Z hu;have a9:=Z (ei hx);clear hu hx))
  go_roundw
  case rel=> obtain⟨l',e1,e2,e3⟩:=yC lb n;have hm:=bk.o;rw[e1]at hm;have cy:OfS (w.heap.size+2) w1 T B cs w4 (LB++[n]):=(a4.o.below A.o).put a9.o ⟨l',hm,λs=>by rw[e2,hF.o];simp,by simp;omega⟩;have it:=oh ((a4.below A.o).k) ((A.block _ (ae G.o)).trans G.o);exact⟨p+1,hlp,by go_num,cy.same HE.o,(a9.o.block _ it).trans ((A.o.block _ (ae G.o)).trans G.o),bw.o.kept (λg _ hg=>(a9.o.block g (by have:=b6.o.1;omega)).trans (A.o.block g (by omega))),by have:=A.o.size;rw[a9.o.size];omega,cz⟩
  simp[intOf];omega
structure cj(w W:ko)(c1 c2:Array ky)(n:Int):Prop where
 b:Bw w W
 x:W.heap[w.heap.size]?=some (.cells c1 208 (0,0))
 y:W.heap[w.heap.size+1]?=some (.cells c2 208 (0,0))
 s:W.heap[w.heap.size+2]?=some (.cells #[.int .i64 n] 3 (0,0))
theorem cj.below{w W c:ko}{c1 c2:Array ky}{n:Int}(h:cj w W c1 c2 n)(a:Bw W c):cj w c c1 c2 n:=
 ⟨h.b.trans (a.mono h.b.size),(a.block _ (ae h.x)).trans h.x,(a.block _ (ae h.y)).trans h.y,(a.block _ (ae h.s)).trans h.s⟩
theorem cj.add{w W:ko}{c1 c2:Array ky}{n:Int}(h:cj w W c1 c2 n)(hn: -1000<=n/\n<=1000)(p q:Bool)(x y:Int)(f: -1000<=x/\x<=1000)(g: -1000<=y/\y<=1000):
 lk prog 188 #[fn p,fn q,J U x,J U y,k5 (X ⟨w.heap.size+2,0,Y⟩)] W λe w'=>e=k4 (.tuple #[])/\cj w w' c1 c2 (if p then if q then n+x else n+y else n):=
 (rC (w.heap.size+2) n x y p q W h.s hn f g).mono λe w'⟨c,d,a⟩=>⟨c,⟨h.b.trans (a.below (by omega)),(a.block _ (by omega)).trans h.x,(a.block _ (by omega)).trans h.y,d⟩⟩
theorem Ah{w:ko}{b:Nat}{l:List Bs}(h:ak tB w b (l.map λs=>(s,fn true)))(k:Bs):(lookL (l.map λs=>(s,lf true)) k).getD (fn false)=fn (decide (k∈l)):=by
 by_cases hm:k∈l
 .rw[decide_eq_true hm,(bz h.nodup).2 (List.mem_map.2 ⟨k,hm,rfl⟩)];rfl
 rw[decide_eq_false hm,ip.2 (λv d=>by
  obtain⟨s,c,a⟩:=List.mem_map.1 d;injection a with h1 _
  exact hm (h1▸c))]
 rfl
theorem yl{w:ko}{b:Nat}{l:List Bs}(h:ak tB w b (l.map λs=>(s,fn true)))(k:Bs)(a:k.length<=maxLen):(Instr.lookup 206 (fs (X b)) (S k) false).run prog w=.ok (fn (decide (k∈l))) w:=by
 have:=ak.look h underlying206 (z:=fn false) (by kernel_rfl) k a;rw[Ah h]at this;exact this
theorem ox{w:ko}{lo n c:Nat}{a:Option Addr}{l:List Bs}(h:w.ownsRow lo 9 1 (hK a n c) n (l.map λs=>S s))(hn:0<n):∃g,a=X ⟨g,0,Y⟩/\g<w.heap.size/\w.cell? ⟨g,0,Y⟩=X (S (l.headD [])):=by
 obtain⟨g,k,b,_⟩:=World.ownsRow.form h hn;injection b with h1 h2 h3
 subst h1 h3;refine⟨g,rfl,(h.lt g (by simp[Value.ownBlock])).2,?_⟩;rw[h.cellAt 0 (by omega)];have d:l.length=n:=by have:=h.1;simpa using this
 cases l with
 |nil=>simp at d;omega
 |cons s l=>rfl
theorem mq(s:Bs): -1<=aM s/\aM s<=9999:=by
 unfold aM;split
 .rename_i h;have:=mE s (λc a=>List.all_eq_true.1 h.2 c a) 4 (by omega);rw[kx (by omega)]at this;unfold foldN at this;omega
 omega
theorem nH:∀s:Bs, -1<=bp s/\bp s<=9999
 |[]=>by unfold bp;omega
 |c::l=>by
  unfold bp
  split
  .exact mq _
  .exact nH l
theorem ln(a:List af): -1<=br a/\br a<=9999:=by
 unfold br;split
 .unfold fo;split
  .split
   .exact mq _
   omega
  omega
 exact nH _
theorem tR(dz e0:Nat)(u v:ky)(r s:aA)(w:ko)(hu:ce dz w u r)(hv:ce e0 w v s)(hr:(bh r.fields).length<=1000000000)(k:(bh s.fields).length<=1000000000):
 lk prog 131 #[u,v] w λe w'=>e=k4 (J U (pointsR r s))/\Bw w w':=by
 obtain⟨N,n1,k1,a1,rfl,_,⟨l1,m1,e1,_⟩,o1⟩:=hu;obtain⟨b2,n2,k2,a2,rfl,_,⟨l2,E,e2,_⟩,o2⟩:=hv;have da:n1=(bh r.fields).length:=by have:=o1.1;simp at this;rcases o1.2 with⟨h,h0⟩|⟨g,c,cu,h,_⟩<;>injection h<;>omega
 have dc:n2=(bh s.fields).length:=by have:=o2.1;simp at this;rcases o2.2 with⟨h,h0⟩|⟨g,c,cu,h,_⟩<;>injection h<;>omega
 subst da dc;have HP:Hid (pointsR r s=bookPts (booksR r.fields) (booksR s.fields)+titlePts (aK r.fields) (aK s.fields)+authorPts (bh r.fields) (bh s.fields)+yearPts (br r.fields) (br s.fields)+(if r.kind=s.kind then 0 else -40)):=rfl;generalize booksR r.fields=B1 at*;generalize booksR s.fields=B2 at*;generalize aK r.fields=o at*;generalize aK s.fields=p at*;generalize bh r.fields=A1 at*;generalize bh s.fields=A2 at*;have f3:=ln r.fields;have f4:=ln s.fields;generalize br r.fields=Y1 at*;generalize br s.fields=Y2 at*;generalize r.kind=K1 at*;generalize s.kind=K2 at*;obtain⟨c1,P⟩:∃c1:Array ky, #[fs (X N),S o,hK a1 A1.length k1,J U Y1,J hN K1.toNat]=c1:=⟨_,rfl⟩;obtain⟨c2,Q⟩:∃c2:Array ky, #[fs (X b2),S p,hK a2 A2.length k2,J U Y2,J hN K2.toNat]=c2:=⟨_,rfl⟩;have e3:=Z P;have e4:=Z Q;have bl:=Z m1;have bs:=Z E;have aS:=Z o1;have aT:=Z o2;have ad:=Z e1;have al:=Z e2
 have B:Hid (∀W n,cj w W c1 c2 n->(W.cell? ⟨w.heap.size,0,Y⟩=X (fs (X N))/\W.cell? ⟨w.heap.size,1,Y⟩=X (S o)/\W.cell? ⟨w.heap.size,2,Y⟩=X (hK a1 A1.length k1)/\W.cell? ⟨w.heap.size,3,Y⟩=X (J U Y1)/\W.cell? ⟨w.heap.size,4,Y⟩=X (J hN K1.toNat))/\
  (W.cell? ⟨w.heap.size+1,0,Y⟩=X (fs (X b2))/\W.cell? ⟨w.heap.size+1,1,Y⟩=X (S p)/\W.cell? ⟨w.heap.size+1,2,Y⟩=X (hK a2 A2.length k2)/\W.cell? ⟨w.heap.size+1,3,Y⟩=X (J U Y2)/\W.cell? ⟨w.heap.size+1,4,Y⟩=X (J hN K2.toNat))):=λW n h=>by
  have j:=h.x
  have i:=h.y
  rw[<- P]at j
  rw[<- Q]at i
  exact⟨⟨(aa j 0).trans rfl,(aa j 1).trans rfl,(aa j 2).trans rfl,(aa j 3).trans rfl,(aa j 4).trans rfl⟩,⟨(aa i 0).trans rfl,(aa i 1).trans rfl,(aa i 2).trans rfl,(aa i 3).trans rfl,(aa i 4).trans rfl⟩⟩
 have bk:Hid (∀W,Bw w W->∀L,(Builtin.len_ #[206] L #[fs (X N)]).run prog W=.ok (J U l1.length) W/\(Builtin.len_ #[206] L #[fs (X b2)]).run prog W=.ok (J U l2.length) W):=λW hb L=>by have j:=cw.len (mv:=X N) (m1.block (hb.block _ m1.lt)) underlying206 L;have i:=cw.len (mv:=X b2) (E.block (hb.block _ E.lt)) underlying206 L;rw[List.length_map]at j i;exact⟨j,i⟩
 clear m1 E o1 o2 e1 e2;have a8:cj w (((w.alloc (k3 c1 208)).alloc (k3 c2 208)).alloc (k3 #[J U 0] 3)) c1 c2 0:=by
  have z1:(w.alloc (k3 c1 208)).heap.size=w.heap.size+1:=by simp
  have z2:((w.alloc (k3 c1 208)).alloc (k3 c2 208)).heap.size=w.heap.size+2:=by simp
  refine⟨(((kq _ w).alloc (kn _) _).alloc (by simp) _).alloc (by simp;omega) _,?_,?_,?_⟩
  .rw[kd _ _ _ (by simp;omega),kd _ _ _ (by simp)];exact ka w _
  .rw[kd _ _ _ (by simp),<- z1];exact ka _ _
  rw[<- z2];exact ka _ _
 rw[<- P,<- Q]at a8;generalize hW3:((w.alloc (k3 #[fs (X N),S o,hK a1 A1.length k1,J U Y1,J hN K1.toNat] 208)).alloc (k3 #[fs (X b2),S p,hK a2 A2.length k2,J U Y2,J hN K2.toNat] 208)).alloc (k3 #[J U 0] 3)=w3 at a8;rw[P,Q]at a8;have cP:=Z hW3;have H3:=Z a8;have ch:w3.heap.size=w.heap.size+3:=by rw[<- hW3];simp
 have au:=Z ch;clear hW3 a8 P Q ch;go_enter func131,ntmps131;go_upto_region 4 with fail;rw[cP.o];obtain⟨⟨x0,_,_,_,_⟩,_⟩:=B w3 0 H3.o;have d9:=Z (bl.block (H3.b.block _ bl.lt));go_wp2_with (refine nJ _ rfl _ _ rfl 4 underlying206 N _ rfl d9.o ?_;intro w4 cd c5 dy)
 have bY:=Z cd;have H4:=Z (H3.below c5);clear cd c5 dy x0;obtain⟨M,b3⟩:∃M:List (Bs×ky),l1.map (λs=>(s,fn true))=M:=⟨_,rfl⟩;rw[b3]at bY;have aC:=Z b3;clear b3;go_simp;go_loopg [7] (M.length+1) (λg t wr=>∃(b:Bool)(left:List (Bs×ky)),left.length<g/\t=fn b/\Hid (cA tB wr N w3.heap.size M left)/\Hid (cj w wr c1 c2 0)/\Hid (b=true↔∃x∈M,x∉left/\x.1∈l2))
 case atStart=>exact⟨false,M,by omega,rfl,bY,H4,by
  unfold Hid;constructor
  .intro h;cases h
  rintro⟨x,R,hn,_⟩;exact absurd R hn⟩
 obtain⟨b,left,er,rfl,HR,V,HB⟩:=hrel;go_wp2_with (refine qL _ rfl _ rfl N w3.heap.size M left rfl HR.o ?_ ?_)
 .intro d7;subst d7;have b9:Hid (b=true↔B1.any B2.contains=true):=by
   unfold Hid;rw[HB.o,List.any_eq_true];constructor
   .rintro⟨x,R,_,i⟩;rw[<- aC.o]at R;obtain⟨s,k,rfl⟩:=List.mem_map.1 R;exact⟨s,(ad.o s).1 k,by simpa using(al.o s).1 i⟩
   rintro⟨s,k,i⟩;exact⟨(s,fn true),by rw[<- aC.o];exact List.mem_map.2 ⟨s,(ad.o s).2 k,rfl⟩,by simp,(al.o s).2 (by simpa using i)⟩
  go_upto_region 8 with fail;go_cut [] (λA=>Hid (cj w A c1 c2 (bookPts B1 B2)))
  case first=>
   obtain⟨⟨x0,_,_,_,_⟩,y0,_,_,_,_⟩:=B wr 0 V.o;have em:=λL=>(bk wr V.b L).1;have eq:=λL=>(bk wr V.b L).2;have z1:l1.length=0↔B1=[]:=by
    rw[List.length_eq_zero_iff];constructor
    .rintro rfl;exact List.eq_nil_iff_forall_not_mem.2 λs k=>by have:=(ad.o s).2 k;simp at this
    rintro rfl;exact List.eq_nil_iff_forall_not_mem.2 λs k=>by have:=(ad.o s).1 k;simp at this
   have z2:l2.length=0↔B2=[]:=by
    rw[List.length_eq_zero_iff];constructor
    .rintro rfl;exact List.eq_nil_iff_forall_not_mem.2 λs k=>by have:=(al.o s).2 k;simp at this
    rintro rfl;exact List.eq_nil_iff_forall_not_mem.2 λs k=>by have:=(al.o s).1 k;simp at this
   have ay:Hid (bookPts B1 B2=if l1.length=0∨l2.length=0 then 0 else if b=true then 50 else -30):=by
    unfold Hid bookPts;by_cases hz:B1=[]∨B2=[]
    .rw[if_pos hz,if_pos (hz.imp z1.2 z2.2)]
    have dx:¬(l1.length=0∨l2.length=0):=λh=>hz (h.imp z1.1 z2.1);rw[if_neg hz,if_neg dx];by_cases hb:b=true
    .rw[if_pos hb,if_pos (b9.o.1 hb)]
    rw[if_neg hb,if_neg (λh=>hb (b9.o.2 h))]
   clear z1 z2;generalize l1.length=q1 at*;generalize l2.length=q2 at*;rcases ks q1 with rfl|F
   .go_wp2_with (go_at_call 188;refine kb (cj.add V.o ⟨by omega,by omega⟩ _ _ _ _ ⟨by decide,by decide⟩ ⟨by decide,by decide⟩) ?_;rintro e T⟨rfl,a⟩;have d:=Z a;clear a)
    go_meet;have:=d.o;rw[show bookPts B1 B2=0 by rw[ay.o];simp];show cj _ _ _ _ _;simpa using this
   rcases ks q2 with rfl|G
   .go_wp2_with (go_at_call 188;refine kb (cj.add V.o ⟨by omega,by omega⟩ _ _ _ _ ⟨by decide,by decide⟩ ⟨by decide,by decide⟩) ?_;rintro e T⟨rfl,a⟩;have d:=Z a;clear a)
    go_meet;have:=d.o;rw[show bookPts B1 B2=0 by rw[ay.o];simp];show cj _ _ _ _ _;simpa using this
   have C:(0:Int)<(q1:Int):=by omega
   have O:(0:Int)<(q2:Int):=by omega
   go_wp2_with (go_at_call 188;refine kb (cj.add V.o ⟨by omega,by omega⟩ _ _ _ _ ⟨by decide,by decide⟩ ⟨by decide,by decide⟩) ?_;rintro e T⟨rfl,a⟩;have d:=Z a;clear a)
   go_meet;have:=d.o;rw[show bookPts B1 B2=if b=true then 50 else -30 by rw[ay.o,if_neg (by omega)]];show cj _ _ _ _ _;simpa using this
  have ao:=hcut;clear hcut;go_upto_region 9 with fail;go_cut [] (λA=>Hid (cj w A c1 c2 (bookPts B1 B2+titlePts o p)))
  case first=>
   obtain⟨⟨_,x1,_,_,_⟩,_,y1,_,_,_⟩:=B wc _ ao.o;have ej: -30<=bookPts B1 B2/\bookPts B1 B2<=50:=by unfold bookPts;split;omega;split<;>omega
   have b0:Hid (titlePts o p=if o=[]∨p=[]then 0 else if o=p then 30 else -20):=rfl;generalize bookPts B1 B2=n at*;rcases o with _|⟨t1,o⟩
   .go_wp2_with (go_at_call 188;refine kb (cj.add ao.o ⟨by omega,by omega⟩ _ _ _ _ ⟨by decide,by decide⟩ ⟨by decide,by decide⟩) ?_;rintro e T⟨rfl,a⟩;have d:=Z a;clear a)
    go_meet;have:=d.o;rw[b0.o];show cj _ _ _ _ _;simpa using this
   rcases p with _|⟨t2,p⟩
   .go_wp2_with (go_at_call 188;refine kb (cj.add ao.o ⟨by omega,by omega⟩ _ _ _ _ ⟨by decide,by decide⟩ ⟨by decide,by decide⟩) ?_;rintro e T⟨rfl,a⟩;have d:=Z a;clear a)
    go_meet;have:=d.o;rw[b0.o];show cj _ _ _ _ _;simpa using this
   go_wp2_with (go_at_call 188;refine kb (cj.add ao.o ⟨by omega,by omega⟩ _ _ _ _ ⟨by decide,by decide⟩ ⟨by decide,by decide⟩) ?_;rintro e T⟨rfl,a⟩;have d:=Z a;clear a)
   go_meet;have:=d.o;rw[b0.o];show cj _ _ _ _ _;by_cases hT:(t1::o:Bs)=t2::p
   .rw[if_neg (by simp),if_pos hT];injection hT with C O
    subst C O;simpa using this
   rw[if_neg (by simp),if_neg hT];have d5:¬(t1=t2/\o=p):=λh=>hT (by rw[h.1,h.2]);simpa[d5]using this
  have a4:=hcut;clear hcut;obtain⟨n,hn⟩:=Qe (bookPts B1 B2+titlePts o p);have f0: -50<=n/\n<=80:=by
   rw[<- hn];have j: -30<=bookPts B1 B2/\bookPts B1 B2<=50:=by unfold bookPts;split;omega;split<;>omega
   have i: -20<=titlePts o p/\titlePts o p<=30:=by unfold titlePts;split;omega;split<;>omega
   omega
  rw[hn]at a4;have HN:=Z hn;clear hn;go_upto_region 10 with fail;go_cut [61] (λt A=>t=fn (decide (0<A1.length)&&decide (0<A2.length))/\A=wc)
  case first=>
   obtain⟨⟨_,_,x2,_,_⟩,_,_,y2,_,_⟩:=B wc _ a4.o;generalize A1.length=q1 at*;generalize A2.length=q2 at*;rcases ks q1 with rfl|F
   .go_wp2_with fail;go_meet;exact⟨rfl,rfl⟩
   rcases ks q2 with rfl|G
   .have C:(0:Int)<(q1:Int):=by omega
    go_wp2_with fail;go_meet;exact⟨by simp,rfl⟩
   have C:(0:Int)<(q1:Int):=by omega
   have O:(0:Int)<(q2:Int):=by omega
   go_wp2_with fail;go_meet;exact⟨by simp[F,G],rfl⟩
  obtain⟨rfl,rfl⟩:=hcut;obtain⟨bb,a0⟩:=Qe ((decide (0<A1.length)&&decide (0<A2.length)));rw[a0];have bc:=Z a0;clear a0;go_upto_if 61 with fail;go_cut [] (λA=>Hid (cj w A c1 c2 (n+authorPts A1 A2)))
  case first=>
   cases bb
   .go_wp2_with fail;go_meet;have:authorPts A1 A2=0:=by
     unfold authorPts;rw[if_pos];have h:=bc.o;rw[la,decide_eq_false_iff_not,decide_eq_false_iff_not]at h;rcases h with h|h
     .exact .inl (k9 (by omega))
     exact .inr (k9 (by omega))
    rw[this];show cj _ _ _ _ _;simpa using a4.o
   have h:=bc.o;rw[Bool.and_eq_true,decide_eq_true_eq,decide_eq_true_eq]at h;obtain⟨F,G⟩:=h;obtain⟨C,rfl,c6,P⟩:=ox aS.o F;obtain⟨O,rfl,c7,Q⟩:=ox aT.o G;have cl:Hid (authorPts A1 A2=if A1=A2 then 15 else if A1.headD []=A2.headD []then 8 else -15):=by unfold Hid authorPts;rw[if_neg];rintro(rfl|rfl)<;>simp at F G
   have HQ:Hid (∀W n,cj w W c1 c2 n->W.cell? ⟨w.heap.size,2,Y⟩=X (hK (X ⟨C,0,Y⟩) A1.length k1)/\W.cell? ⟨w.heap.size+1,2,Y⟩=X (hK (X ⟨O,0,Y⟩) A2.length k2)/\W.cell? ⟨C,0,Y⟩=X (S (A1.headD []))/\W.cell? ⟨O,0,Y⟩=X (S (A2.headD []))):=λW n h=>by obtain⟨⟨_,_,x2,_,_⟩,_,_,y2,_,_⟩:=B W n h;exact⟨x2,y2,((an h.b).1 _ _ c6).trans P,((an h.b).1 _ _ c7).trans Q⟩
   have cn:Hid (∀W n,cj w W c1 c2 n->lk prog 189 #[hK (X ⟨C,0,Y⟩) A1.length k1,hK (X ⟨O,0,Y⟩) A2.length k2] W λe w'=>e=k4 (fn (decide (A1=A2)))/\∃q,w'=W.drewN q):=λW n h=>
    xl (ai aS.o (λg hg=>h.b.block g (aS.lt g hg).2)) (ai aT.o (λg hg=>h.b.block g (aT.lt g hg).2)) hr k
   have cp:Hid (A1=A2->A1.headD []=A2.headD []):=λh=>by rw[h]
   clear P Q c6 c7;generalize A1.headD []=j at*;generalize A2.headD []=i at*;have e5:Hid (A1.length<=1000000000):=hr;have e8:Hid (A2.length<=1000000000):=k;generalize A1.length=q1 at*;generalize A2.length=q2 at*;have i1:(0:Int)<(q1:Int):=by omega
   have i2:(0:Int)<(q2:Int):=by omega
   have c4:∃m,cj w wc.drew c1 c2 m:=⟨n,a4.below (kq _ wc).drew⟩;have bw:Hid (cj w wc.drew c1 c2 n):=a4.below (kq _ wc).drew;generalize hdd:decide (A1=A2)=dd at*;have bd:=Z hdd;clear hdd;go_wp2_with fail;refine wT (λW=>∃m,cj w W c1 c2 m) 999 ?_;have I:=tkL [0,1,2,3,4,5,6,7,8,9,10,11,12,13];repeat(refine tkIS I ?_ rfl c4 ?_ ?_;rotate_left;intro w' h;obtain⟨m,h⟩:=h;obtain⟨c0,d0,c3,d3⟩:=HQ w' m h;go_simp;rfl;(try go_simp);replace I:=tkO I)
   clear I;refine Dp 14 λK l=>?_;go_simp;go_at_call 189;refine(cn _ _ bw.o).mono ?_;rintro e T⟨rfl,qq,cg⟩;have bA:Hid (cj w T c1 c2 n):=by rw[cg];exact bw.o.below ⟨rfl,rfl,rfl,kn _,λ_ _=>rfl⟩
   clear cg;refine l _ _ (λ_=>⟨n,bA.o⟩) ?_;clear l K;refine Dp 15 λK l=>?_;go_simp;go_at_call 188;refine kb (cj.add bA.o ⟨by omega,by omega⟩ _ _ 15 8 ⟨by decide,by decide⟩ ⟨by decide,by decide⟩) ?_;rintro e w6⟨rfl,z⟩;obtain⟨n6,b7,z⟩:∃n6,(n6=_)/\cj w w6 c1 c2 n6:=⟨_,rfl,z⟩;have eg: -50<=n6/\n6<=95:=by rw[b7];split;split;omega;omega;omega
   have a3:=Z z;have cs:=Z b7;clear b7;refine l _ _ (λ_=>⟨_,z⟩) ?_;clear l K;refine dN ?_;have d4:∃m,cj w w6.drew c1 c2 m:=⟨n6,a3.below (kq _ w6).drew⟩;have cx:Hid (cj w w6.drew c1 c2 n6):=a3.below (kq _ w6).drew;clear z c4;go_wp2_with fail;refine wT (λW=>∃m,cj w W c1 c2 m) 999 ?_;have I:=tkL [0,1,2,3,4,5,6,7,8,9];repeat(refine tkIS I ?_ rfl d4 ?_ ?_;rotate_left;intro w' h;obtain⟨m,h⟩:=h;obtain⟨c0,d0,c3,d3⟩:=HQ w' m h;go_simp;rfl;(try go_simp);replace I:=tkO I)
   clear I;refine Dp 10 λK l=>?_;go_simp;go_at_call 188;refine kb (cj.add cx.o ⟨by omega,by omega⟩ _ _ (-15) 0 ⟨by decide,by decide⟩ ⟨by decide,by decide⟩) ?_;rintro e w7⟨rfl,a7⟩;obtain⟨n7,cb,a7⟩:∃n7,(n7=_)/\cj w w7 c1 c2 n7:=⟨_,rfl,a7⟩;have cy:=Z a7;have cv:=Z cb;clear cb;refine l _ _ (λ_=>⟨_,a7⟩) ?_;clear l K;refine dN ?_;clear a7;go_wp2_with fail;go_meet;show cj _ _ _ _ _;have e6:=cs.o;have e7:=cv.o;have e:n+authorPts A1 A2=n7:=by
    rw[cl.o];by_cases hA:A1=A2
    .have hh:=cp hA;subst hh;rw[<- bd.o,decide_eq_true hA]at e6;rw[if_pos hA];simp at e6 e7;omega
    rw[<- bd.o,decide_eq_false hA]at e6;rw[if_neg hA];by_cases hh:j=i
    .subst hh;simp at e6 e7 ⊢;omega
    rw[if_neg hh];simp[hh]at e6 e7;omega
   rw[e];exact cy.o
  have a5:=hcut;clear hcut;obtain⟨m,D⟩:=Qe (n+authorPts A1 A2);have ex: -65<=m/\m<=95:=by
   have: -15<=authorPts A1 A2/\authorPts A1 A2<=15:=by unfold authorPts;split;omega;split;omega;split<;>omega
   omega
  rw[D]at a5;have bv:=Z D;clear D;go_upto_region 13 with fail;go_cut [112] (λt A=>t=fn (decide (0<=Y1)&&decide (0<=Y2)&&decide (Y1-Y2≠1)&&decide (Y2-Y1≠1))/\A=wc)
  case first=>
   obtain⟨⟨_,_,_,x3,_⟩,_,_,_,y3,_⟩:=B wc _ a5.o;have w1:IntKind.i64.wrap (Y1-Y2)=Y1-Y2:=IntWalk.i64_in _ (by omega);have w2:IntKind.i64.wrap (Y2-Y1)=Y2-Y1:=IntWalk.i64_in _ (by omega);obtain⟨d1,b4⟩:=Qe (Y1-Y2);obtain⟨d2,b5⟩:=Qe (Y2-Y1);have W1:Hid (IntKind.i64.wrap (Y1-Y2)=d1):=by rw[w1];exact b4
   have W2:Hid (IntKind.i64.wrap (Y2-Y1)=d2):=by rw[w2];exact b5
   have a9:=Z b4;have ac:=Z b5;clear w1 w2 b4 b5;have w1:=W1.o;have w2:=W2.o;rcases Int.lt_or_le Y1 0 with F|F
   .have C:¬(0<=Y1):=by omega
    go_wp2_with fail;go_meet;refine⟨?_,rfl⟩;rw[a9.o,ac.o];simp;intro h;omega
   rcases Int.lt_or_le Y2 0 with G|G
   .have O:¬(0<=Y2):=by omega
    go_wp2_with fail;go_meet;refine⟨?_,rfl⟩;rw[a9.o,ac.o];simp;intro _ h;omega
   by_cases e1:d1=1
   .subst e1;go_wp2_with fail;go_meet;refine⟨?_,rfl⟩;rw[a9.o,ac.o];simp[F,G]
   have f1:(d1 !=1)=true:=by simp[e1]
   go_wp2_with fail;go_meet;refine⟨?_,rfl⟩;rw[a9.o,ac.o];by_cases e2:d2=1<;>simp[F,G,e1,e2,bne]
  obtain⟨rfl,rfl⟩:=hcut;obtain⟨bb,a0⟩:=Qe ((decide (0<=Y1)&&decide (0<=Y2)&&decide (Y1-Y2≠1)&&decide (Y2-Y1≠1)));rw[a0];have b8:=Z a0;clear a0;go_upto_if 112 with fail;go_cut [] (λA=>Hid (cj w A c1 c2 (m+yearPts Y1 Y2)))
  case first=>
   cases bb
   .go_wp2_with fail;go_meet;have h:=b8.o;have:yearPts Y1 Y2=0:=by
     unfold yearPts;simp only[la,decide_eq_false_iff_not]at h;split
     .rfl
     rw[if_neg (by omega),if_pos (by omega)]
    rw[this];show cj _ _ _ _ _;simpa using a5.o
   obtain⟨⟨_,_,_,x3,_⟩,_,_,_,y3,_⟩:=B wc _ a5.o;go_wp2_with (go_at_call 188;refine kb (cj.add a5.o ⟨by omega,by omega⟩ _ _ _ _ ⟨by decide,by decide⟩ ⟨by decide,by decide⟩) ?_;rintro e T⟨rfl,a⟩;have d:=Z a;clear a)
   go_meet;have h:=b8.o;simp only[Bool.and_eq_true,decide_eq_true_eq]at h;have:=d.o;show cj _ _ _ _ _;unfold yearPts;rw[if_neg (by omega)];by_cases he:Y1=Y2
   .rw[if_pos he];simpa[he]using this
   rw[if_neg he,if_neg (by omega)];simpa[he]using this
  have d:=hcut;clear hcut;obtain⟨E,b6⟩:=Qe (m+yearPts Y1 Y2);have eQ: -75<=E/\E<=105:=by
   have: -10<=yearPts Y1 Y2/\yearPts Y1 Y2<=10:=by unfold yearPts;split;omega;split;omega;split<;>omega
   omega
  rw[b6]at d;have bt:=Z b6;clear b6;obtain⟨⟨_,_,_,_,x4⟩,_,_,_,_,y4⟩:=B wc _ d.o;by_cases l:K1=K2
  .have hk:((K1.toNat:Int)==(K2.toNat:Int))=true:=by rw[l];simp
   have HK:=Z l;clear l;go_wp2_with (go_at_call 188;refine kb (cj.add d.o ⟨by omega,by omega⟩ _ _ _ _ ⟨by decide,by decide⟩ ⟨by decide,by decide⟩) ?_;rintro e w6⟨rfl,z⟩;have a3:=Z z;have s6:=(aa z.s 0).trans rfl;clear z)
   go_ret;refine⟨?_,a3.b⟩;rw[HP.o,HN.o,bv.o,bt.o,if_pos HK.o];simp
  have hk:((K1.toNat:Int)==(K2.toNat:Int))=false:=by have:K1.toNat≠K2.toNat:=λh=>l (UInt8.toNat_inj.1 h);simp;omega
  have HK:=Z l;clear l;go_wp2_with (go_at_call 188;refine kb (cj.add d.o ⟨by omega,by omega⟩ _ _ _ _ ⟨by decide,by decide⟩ ⟨by decide,by decide⟩) ?_;rintro e w6⟨rfl,z⟩;have a3:=Z z;have s6:=(aa z.s 0).trans rfl;clear z)
  go_ret;refine⟨?_,a3.b⟩;rw[HP.o,HN.o,bv.o,bt.o,if_neg HK.o];simp
 intro H pv w2 hp ds cc c9 a6 d6;have e9:w3.heap.size<wr.heap.size:=HR.lt;have cz:Hid (left.Sublist M):=by obtain⟨es,f,cQ,j,i,h3,h4,_⟩:=HR.o;exact h4
 have f2:H∈l1:=by
  obtain⟨es,f,cQ,j,i,h3,h4,_⟩:=HR.o;have:=h4.subset hp;rw[<- aC.o]at this;obtain⟨s,k,he⟩:=List.mem_map.1 this;injection he with j _
  rw[<- j];exact k
 have av:cj w w2 c1 c2 0:=by have h:=V.o;exact⟨h.b.trans (a6.below (by have:=au.o;omega)),(a6.block _ (by have:=au.o;omega)).trans h.x,(a6.block _ (by have:=au.o;omega)).trans h.y,(a6.block _ (by have:=au.o;omega)).trans h.s⟩
 have d8:=yl (bs.block (av.b.block _ bs.lt)) H ds;obtain⟨_,y0,_,_,_,_⟩:=B w2 0 av;have bB:=Z av;have bO:=Z cc;have c8:tB.kv H=S H:=rfl;rw[c8]at d6;obtain⟨m,D⟩:=Qe (decide (H∈l2));rw[D]at d8;have cq:=Z D;have cm:=Z hp;clear cc av c8 a6 D hp;cases b;rotate_left
 .go_wp2_with fail;go_roundg (left.length)
  case rel=> refine⟨true,cB left H,c9,rfl,bO,bB,?_⟩;unfold Hid;obtain⟨x,R,hn,ax⟩:=HB.o.1 (by simp);exact⟨λ_=>⟨x,R,λh=>hn (List.mem_filter.1 h).1,ax⟩,λ_=>rfl⟩
  omega
 go_wp2_with fail;go_roundg (left.length)
 case rel=>
  refine⟨m,cB left H,c9,rfl,bO,bB,?_⟩;unfold Hid;have h0:=HB.o;rw[<- cq.o,decide_eq_true_eq];constructor
  .intro D;exact⟨(H,pv),cz.o.subset cm.o,by simp[cB],D⟩
  rintro⟨x,R,hn,ax⟩;by_cases hxl:x∈left
  .have:x.1=H:=by apply Classical.byContradiction;intro dk;exact hn (List.mem_filter.2 ⟨hxl,by simpa using dk⟩)
   rw[<- this];exact ax
  exact absurd (h0.2 ⟨x,R,hxl,ax⟩) (by decide)
 omega
end
end Go.Proofs.YtjcimanddakkaaaGreatDoor
