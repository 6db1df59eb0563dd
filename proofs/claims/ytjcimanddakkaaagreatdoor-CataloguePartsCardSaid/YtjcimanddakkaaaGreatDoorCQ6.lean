/- Lemmas. -/
import Derived.Test.YtjcimanddakkaaaGreatDoorCQ5
import Derived.Test.YtjcimanddakkaaaGreatDoorCQ8
import Derived.Lib.TrimAscii
import Derived.Lib.ConvBytes
import Derived.Shelf.Small.Wraps
import Derived.Shelf.Strings.BuilderRune
import Derived.Shelf.Utf8.AppendRune
import Derived.Shelf.Utf8.AppendRunePlain
import Derived.Shelf.Utf8.RuneCount
import Derived.Shelf.Strings.Shaped
import Derived.Shelf.Sort.Plain
import Derived.Shelf.Strings.Split
import Derived.Shelf.Unicode.Latin
import Derived.Shelf.Unicode.Decode
import Derived.Shelf.Strings.RuneCount
import Derived.Shelf.Unicode.DecodeLast
import Derived.Shelf.Unicode.CaseLaid
import Derived.Shelf.Strings.BuilderCap
import Derived.Shelf.Slices.SearchI
import Derived.Shelf.Slices.Cells
import Derived.Shelf.Slices.In.SortNone
import Derived.Shelf.Slices.Empties2
set_option maxRecDepth 100000
set_option maxHeartbeats 8000000
namespace Go.Proofs.YtjcimanddakkaaaGreatDoor
open _root_.Option renaming some→X,none→Y
open Go.Obj renaming cells→cs
open Go.Value renaming int→J,slice→ds,pointer→dx,bool→dy
open Go.IntKind renaming i64→U,u8→dz,i32→e5
open Go.Ending renaming returned→dk
open Go.Lib renaming hid→Z
open Tryz
open Go.Calls renaming mono→eg
open _root_.Nat renaming le_refl→em,le_trans→fy,zero_le→gp,one_pos→g5
open _root_.List renaming length_append→er,length_cons→e6,length_take→fb,length_drop→fc,filter_cons→ft,length_map→fz,map_cons→gd,takeWhile_cons→gn,sum_cons→gs,map_append→gt,replicate→gz,length_nil→g0,drop_eq_getElem_cons→g2,length→g3,take_of_length_le→g9,drop_of_length_le→ha,mem_cons_of_mem→hf,mem_cons_self→hl,filter_append→ho,take_succ_eq_append_getElem→ht,map→hu,append_nil→hF,take_append_drop→hM,length_singleton→hO,getD_cons_zero→hQ,map_singleton→hW
open Go.World renaming alloc_heap_new→es,size_alloc→fp,cell?_alloc_new→hb,iterPos→hj,ownsRow_nil→hr
open Go.RowKit.Below renaming refl→ex,heap_alloc→e8,heap_setCell→gq
open Go renaming World→eQ,rounds_succ→fl,Calls→fr,Value→fx,wp_loop_rounds→gO,bodyPost_ret→gP,wpList_append_own_at→g1,info_parts→hI
open _root_.Array renaming getElem?_setIfInBounds_ne→e7,getElem?_append_left→hH,getElem?_eq_none→hK,length_toList→hP
open _root_.UInt8 renaming ofNat→e9,ofNat_toNat→hV
open Go.Utf8 renaming decode→fs,encode→gQ
open Go.Exit renaming noGoto_ret→gb
open Go.IntWalk renaming i64_in→gi
open Go.Value renaming oneCell'→gx,string→gy,int→he,slice→hh
open Go.World.ownsRow renaming form→g4
open Go.Lib renaming indexByte→g7,run_next_end_at→hX,run_next_any_at→hY
open Go.Instr renaming next→hJ
open Go.RowKit renaming Below→hZ
section
open Go.RowKit Go.Maps Go.Shelf
attribute [local go_sem] Oper.semAt_some
theorem KeepsOthers.of_below{W a:eQ}(h:Bw W a):KeepsOthers W a:=
 ⟨h.size,λk _ b _=>(h.block k (ae b)).trans b⟩
theorem nc.of_below{M:Nat->Prop}{W a:eQ}(h:Bw W a)(b:∀k,M k->k<W.heap.size):nc M W a:=λk c=>h.block k (b k c)
theorem de.of_below{B:Nat}{M:Nat->Prop}{W b:eQ}(h:Bw W b)(c:∀k,M k->k<W.heap.size):de B M W M b:=
 ⟨h.os,h.tape,h.output,h.size,λk a _ _=>h.block k a,λ_ h=>.inl h,λk a=>Nat.lt_of_lt_of_le (c k a) h.size⟩
theorem iT:∀w:Bs,(h:w≠[])->stripR w=(w.take (w.length-1)).dropWhile (· ==48)++w.drop (w.length-1)
 |[],h=>absurd rfl h
 |[c],_=>by simp[stripR]
 |c::d::l,_=>by
  have ih:=iT (d::l) (by simp)
  unfold stripR
  have a:(c::d::l).length-1=((d::l).length-1)+1:=by simp
  rw[a,List.take_succ_cons,List.drop_succ_cons,List.dropWhile_cons]
  by_cases h:c=48
  .rw[if_pos h,if_pos (by simp[h]),ih]
  .rw[if_neg h,if_neg (by simp[h])]
   rw[List.cons_append,hM]
theorem nQ(w:Bs):(stripR w).length<=w.length:=by
 by_cases h:w=[]
 .subst h;simp[stripR]
 rw[iT w h,er,fc];have:=List.Sublist.length_le (List.dropWhile_sublist (λx:UInt8=>x==48) (l:=w.take (w.length-1)));rw[fb]at this;omega
theorem rE(w:Bs):(df w).length<=w.length+2:=by
 unfold df;split
 .have:=nQ w;simp only[e6];omega
 omega
theorem iu:∀l:List Bs,(joinR l).length<=(l.map λs=>s.length+1).sum
 |[]=>by simp[joinR]
 |[a]=>by simp[joinR]
 |a::b::l=>by
  have:=iu (b::l)
  unfold joinR
  simp only[er,gd,gs,e6,g0]at*
  omega
theorem qN(a:List Nat)(l:Bs):((aU a l).map g3).sum<=l.length+4*a.length:=by
 induction a generalizing l with
 |nil=>unfold aU;split<;>simp
 |cons c a ih=>
  have b:=ki c;unfold aU;split
  .split
   .have:=ih [];simp only[e6,g0]at*;omega
   have:=ih [];simp only[e6,g0,gd,gs]at*;omega
  have:=ih (l++foldR c);simp only[e6,er]at*;omega
theorem fq(s:Bs):((wordsR s).map g3).sum<=4*s.length:=by
 have a:=qN (runesR s) [];have b:=fW s;unfold wordsR;simp only[g0]at a;omega
theorem qY(l:List Bs)(c:Nat):(l.map λs=>s.length+c).sum=(l.map g3).sum+c*l.length:=by
 induction l with
 |nil=>simp
 |cons a l ih=>simp only[gd,gs,e6,ih,Nat.mul_add];omega
theorem iZ(l:List Bs):(joinR (l.map df)).length<=(l.map g3).sum+3*l.length:=by
 refine fy (iu _) ?_;rw[List.map_map,<- qY];induction l with
 |nil=>simp
 |cons a l ih=> have:=rE a;simp only[gd,gs,Function.comp]at*;omega
theorem gJ(s x:Bs)(h:x∈wordsR s):x.length<=4*s.length:=by
 have b:=fq s;have:∀l:List Bs,x∈l->x.length<=(l.map g3).sum:=by
  intro l;induction l with
  |nil=>intro h;cases h
  |cons a l ih=>
   intro h;simp only[gd,gs];rcases List.mem_cons.1 h with rfl|h
   .omega
   have:=ih h;omega
 exact fy (this _ h) b
theorem l8{w:eQ}{B e k n:Nat}{v:fx}{a:List fx}(h:w.ownsRow B e k v n a):w.drew.ownsRow B e k v n a:=h
theorem zT{w:eQ}{B t:Nat}{v:fx}(h:Boxed w B t v):Boxed w.drew B t v:=h
theorem gC.at{w W b:eQ}{a:Nat}{M:Nat->Prop}{c:List Bs}(h:gC w a M c W)(d:Bw W b):gC w a M c b:=
 gC.stable w a w.heap.size (em _) M c W M b h (de.of_below d λk e=>(h.lt k e).1)
theorem xC(w:eQ)(o:Obj)(x:fx)(t:TypeId):∀j u,[x][j]?=X u->((w.alloc o).alloc (cs #[x] t)).drew.cell? ((⟨w.heap.size+1,0,Y⟩:Addr).add j)=X u:=by
 have h:=cell_one_new (w.alloc o) x t;rw[fp]at h;exact h
theorem zI{W b:eQ}(a:Bw W b)(o c:Obj):Bw W ((b.alloc o).alloc c).drew:=
 Below.drew ((a.alloc a.size _).alloc (by have:=a.size;simp;omega) _)
theorem oI{w W i w1:eQ}{a:Nat}{M:Nat->Prop}{f:List Bs}{z:Bs}{v c:fx}(h:gC w a M f W)(m:Bw W i)(I:w.heap.size<=a)
 (F:Boxed i a 81 v)(u:i.ownsRow w.heap.size 9 1 v f.length (f.map λs=>S s))(D:∀g,v.ownBlock=X g->¬M g)
 (E:w1.ownsRow w.heap.size 9 1 c (f.length+1) ((f.map λs=>S s)++[S z]))(l:i.grownBy w1 v.ownBlock)(N:c.ownBlock=v.ownBlock∨c.ownBlock=X i.heap.size):
 Boxed w1 a 81 v/\KeepsOthers W (w1.setCell ⟨a,0,Y⟩ c)/\nc M W (w1.setCell ⟨a,0,Y⟩ c)/\gC w a M (f++[z]) (w1.setCell ⟨a,0,Y⟩ c):=by
 have G:=h.b.size;have y:=m.size;have n:=h.lt;have A:=h.box;have x:Boxed w1 a 81 v:=F.kept l (F.not_row (by decide) u);have K:Bw w (w1.setCell ⟨a,0,Y⟩ c):=h.b.trans (((m.mono G).grown l (fy G y) λj t=>(u.lt j t).1).setCell (p:=⟨a,0,Y⟩) I c);refine⟨x,((KeepsOthers.of_below m).trans (KeepsOthers.of_grownBy l λj o t B=>?_)).trans (KeepsOthers.setCell _ _ _),λk d=>?_,⟨⟨_,x.set c,?_,λq r C=>?_⟩,K,λk d=>⟨?_,(n k d).2⟩,A⟩⟩
 .obtain⟨O,L⟩:=aH u t;rw[L]at B;cases B;rfl
 .have H:=(n k d).1;rw[gq _ _ _ _ (λ(e:k=a)=>A (e▸d)),l.block k (by omega) (λe=>D k e.symm d)];exact m.block k H
 .rw[er,gt];exact E.kept (grownBy_setCell' w1 a c) (.inr (x.not_row (by decide) E).symm)
 .rcases N with e|e
  .exact D q (e▸r) C
  rw[e]at r;injection r with r
  have:=(n q C).1;omega
 refine Nat.lt_of_lt_of_le (n k d).1 (fy y ?_);rw[World.size_setCell];exact l.size
theorem yo(s:Bs)(skip:Nat)(hs:s.length<=1000000)(E:skip<=1000)(w:eQ):fr prog 231 #[S s,J U skip] w λe w'=>e=dk (S (dA s skip))/\Bw w w':=by
 obtain⟨t,N⟩:=Qe (s.drop skip);have b6:t.length<=1000000:=by rw[<- N,fc];omega
 have C:Hid (dA s skip=joinR ((wordsR t).map df)):=by unfold Hid dA;rw[N]
 have c0:max (skip:Int) 0=skip:=by omega
 have b3:min (skip:Int) (s.length:Int)=((min skip s.length:Nat):Int):=by omega
 have bB:min skip s.length<=s.length:=Nat.min_le_right _ _;have bv:s.drop (min skip s.length)=t:=by
  rw[<- N];rcases Nat.le_total skip s.length with h|h
  .rw[Nat.min_eq_left h]
  rw[Nat.min_eq_right h,ha h,List.drop_length]
 generalize min skip s.length=m at*;have bb:=Z b3;have b7:(w.alloc (cs #[ds Y 0 0] 81)).heap.size=w.heap.size+1:=by simp
 refine(callsIn_wide (n:=10)).1 ?_;refine callsIn_of_wp_marks func231 rfl trivial ?_ rfl;simp only[ntmps231,List.size_toArray,e6,g0,Nat.reduceAdd,Nat.reduceSub,Array.replicate_succ,Array.replicate_zero,List.push_toArray,List.append_toArray,List.nil_append,List.cons_append];gi_wp2_with (refine⟨trivial,?_⟩;gi_at_call 185;refine(callsIn_wide.2 (jP t _)).mono ?_;rintro e w1⟨rfl,rfl⟩)
 have b5:=jR 9 (by omega) (w.heap.size+1) t b6 ((w.alloc (cs #[ds Y 0 0] 81)).alloc (cs #[S t] 9)) (by rw[<- b7,hb];rfl);have bO:Boxed ((w.alloc (cs #[ds Y 0 0] 81)).alloc (cs #[S t] 9)) w.heap.size 81 (ds Y 0 0):=(Boxed.new w 81 (ds Y 0 0)).alloc _;have a5:Bw w ((w.alloc (cs #[ds Y 0 0] 81)).alloc (cs #[S t] 9)):=((ex _ w).alloc (em _) _).alloc (by simp) _;generalize hW0:(w.alloc (cs #[ds Y 0 0] 81)).alloc (cs #[S t] 9)=W0 at*;have bd:W0.heap.size=w.heap.size+2:=by rw[<- hW0];simp
 refine lJ rfl (by decide) (gf:=247) (lb:= #[dx (X ⟨w.heap.size+1,0,Y⟩)]) ?hg trivial (enters_of func247 (by kernel_rfl) rfl) b5 (λk E=>E.elim) (ex _ _) (λ_=>rfl)
  (λM j W=>gC w w.heap.size M (j.map df) W) (λ_ _ _ _=>False) (λM s ac M' aC h N=>gC.stable w _ _ a5.size M (s.map df) ac M' aC h N) (λ_ _ _ _ _ _ h _=>h) (λM s ac h k E=>(h.lt k E).1) (λ_ _ _ _ h=>h.elim)
  ⟨⟨_,bO,hr _ _ _ _,λg hg=>by cases hg⟩,a5,λk E=>E.elim,λh=>h⟩
  ?a1 ?assign ?body ?done ?stop
 case hg=>simp[Act.eval]
 case assign=>
  intro l x W K f;gi_wp2
  exact f
 case done=>
  rintro D M xs W hD hS h f;obtain⟨v,O,F,_⟩:=h.o;have hc:=O.cell;have bc:=Z F;have HB:=Z h.b;obtain rfl:=hS;have bw:(joinR ((wordsR t).map df)).length<=10000000:=by have:=iZ (wordsR t);have:=fq t;have:=dW t;omega
  have c7:=dW t;have HJ:=Z (my (w:=W) (B:=w.heap.size) (n:=((wordsR t).map df).length) (v:=v) (l:=(wordsR t).map df) F (by simp;omega) (by omega));clear h F;gi_wp2_with (refine⟨trivial,?_⟩;gi_at_call 244;refine(callsIn_wide.2 HJ.o).mono ?_;rintro e d⟨rfl,a⟩)
  have ad:d.heap[D]?=X (.deferred (X [])):=(a.block D (ae f)).trans f;refine⟨by simp,.inl ⟨_,_,rfl,run_takeDeferred ad,?_⟩⟩;refine⟨_,results_tmp rfl _ _ _,by rw[C.o];rfl,(HB.o.trans (a.mono HB.o.size)).trans (belowK_b (w:=w) (em _) d D _ _ (by have:=a5.size;omega) ad rfl rfl)⟩
 case stop=> rintro D c M j W _ _ h _;exact h.elim
 rintro l M j x W h hx;obtain⟨v,O,F,al⟩:=h.o;have hc:=O.cell;obtain⟨i0,hi,av,ax,ay⟩:=hI i9;have HB:=Z h.b;have C:=Z F;have V:=Z O;have a9:=Z al;have Q:=Z h;have au:=hx.1;have cb:x.length<=4000000:=by have:=gJ t x (by obtain⟨z,hz⟩:=hx.2;rw[<- hz];simp);omega
 have c2:j.length<100000000:=by have:=hx.2.length_le;have:=dW t;simp at*;omega
 clear h F O al hx;by_cases hd:dR x=true;rotate_left
 .have R:Hid (df x=x):=by unfold Hid df;rw[if_neg hd]
  have a7:dR x=false:=by simpa using hd
  have HD:Hid (∀W,fr prog 230 #[S x] W λe w'=>e=dk (dy false)/\Bw W w'):=λW=>by have:=dM x W (by omega);unfold dR at a7;rw[a7]at this;exact this
  clear hd a7
  gi_wp2_with (first
   |(refine⟨trivial,?_⟩;gi_at_call 230;refine(CallsIn.inRound l (callsIn_wide.2 (HD _))).mono ?_;rintro e d⟨rfl,a⟩;have H:=Q.at a;have p:=Z (show Boxed d w.heap.size 81 v from(a.block _ (ae V.o)).trans V.o);have G:=Z (ai C.o λg hg=>a.block g (l0 C.o g hg));have b0:=p.cell;have a0:=Z H.b;clear H)
   |(gi_at_builtin;(refine wpListIn_append_own_at _ rfl _ _ 81 rfl w.heap.size 9 i0 (.string ⟨#[]⟩) 1 16 underlying81 hi av ax ay rfl g5 v (hu df j).length (hu (λs=>S s) (hu df j)) ?_ ?_ ⟨d.heap.size,0,Y⟩ 1 1 [S x] ?_ ?_ ?_ ?_ ?_ ?_ ?_ ?_);(focus rfl);(focus exact G.o.alloc _);(focus rfl);(focus rfl);(focus exact cell_one_new _ _ _);(focus simp[gx]);(focus (unfold maxLen;rw[fz];omega));(focus (rw[fz];omega));(focus (have:=a0.o.size;simp;omega));intro v' w1 L a8 _ I;obtain⟨g',aS,rfl⟩:=ownsRow_succ L;have a6:Bw W (d.alloc (cs #[S x] 9)):=a.alloc a.size _;obtain⟨P,A,u,r⟩:=oI (z:=df x) Q.o a6 (em _) (p.o.alloc _) (G.o.alloc _) a9.o (by rw[R.o];exact L) a8 I;rw[fz]at A u r;have aT:=P.cell;have b1:=P.frozen;have a4:=Z A;have a3:=Z u;have a2:=Z r;clear A u r I))
  exact⟨a4.o,a3.o,by have h:=a2.o;rw[<- hW,<- gt]at h;exact h⟩
 have c9:0<x.length:=List.length_pos_iff.2 au;have ao:(x.length:Int)-1=((x.length-1:Nat):Int):=by omega
 have b4:x.length-1<=x.length:=by omega
 obtain⟨q,hq⟩:=Qe (x.length-1);obtain⟨y,hy⟩:=Qe (stripR x);have cc:y.length<=x.length:=by rw[<- hy];exact nQ x
 have HY:Hid ((x.take q).dropWhile (· ==48)++x.drop q=y):=by unfold Hid;rw[<- hy,<- hq,iT x au]
 have R:Hid (df x=(48+e9 (min y.length 99/10))::(48+e9 (min y.length 99%10))::y):=by unfold Hid df;rw[if_pos hd,hy,UInt8.ofNat_add,UInt8.ofNat_add];rfl
 rw[hq]at ao b4;have b2:¬9223372036854775807<(List.dropWhile (· ==48) (x.take q)).length+(x.drop q).length:=by have:=congrArg g3 HY.o;rw[er]at this;omega
 have HD:Hid (∀W,fr prog 230 #[S x] W λe w'=>e=dk (dy true)/\Bw W w'):=λW=>by have:=dM x W (by omega);unfold dR at hd;rw[hd]at this;exact this
 have b9:prog.follows .mixedOrders=true:=by kernel_rfl
 have b8:IntKind.i64.wrap (q:Int)=q:=gi _ (by omega);have c8:IntKind.i64.wrap ((x.length:Int)-1)=q:=by rw[ao];exact b8
 have c5:(0:Int)<=q:=by omega
 have c4:(q:Int)<=(x.length:Int):=by omega
 have bA:¬9223372036854775807<(List.dropWhile (· ==48) (x.take q)).length+(x.length-q):=by rw[<- fc];exact b2
 skip;obtain⟨n,hn⟩:=Qe (min y.length 99);have c1:n<=99:=by omega
 have bY:min (y.length:Int) 99=(n:Int):=by omega
 have c3:Int.tdiv (n:Int) 10=((n/10:Nat):Int):=by rw[Int.tdiv_eq_ediv_of_nonneg (by omega)];omega
 have c6:Int.tmod (n:Int) 10=((n%10:Nat):Int):=by rw[Int.tmod_eq_emod_of_nonneg (by omega)];omega
 rw[hn]at R;have bs:n/10<=9:=by omega
 have bt:n%10<=9:=by omega
 generalize n/10=d1 at*;generalize n%10=d2 at*;clear hd hy hq hn;gi_wp2_with (refine⟨trivial,?_⟩;gi_at_call 230;refine(CallsIn.inRound l (callsIn_wide.2 (HD _))).mono ?_;rintro e d⟨rfl,a⟩;have H:=Q.at a;have p:=Z (show Boxed d w.heap.size 81 v from(a.block _ (ae V.o)).trans V.o);have G:=Z (ai C.o λg hg=>a.block g (l0 C.o g hg));have b0:=p.cell;have bk:∀o,(d.alloc o).cell? ⟨w.heap.size,0,Y⟩=X v:=λo=>(p.alloc o).cell;have bl:∀o,(d.alloc o).drew.cell? ⟨w.heap.size,0,Y⟩=X v:=λo=>(p.alloc o).cell;have a0:=Z H.b;clear H)
 have T:True:=trivial;refine nk (λ_=>True) 12 b9 (by decide) (by kernel_rfl) (λ⟨_,_,h⟩=>h) ?_;refine tk 0 ?_ rfl T ?_ ?_;rotate_left;intro w' h;go_simp;rfl;refine tk 1 ?_ rfl T ?_ ?_;rotate_left;intro w' h;go_simp;rfl;refine tk 2 ?_ rfl T ?_ ?_;rotate_left;intro w' h;go_simp;rfl;refine tk 3 ?_ rfl T ?_ ?_;rotate_left;intro w' h;go_simp;rfl;refine tk 4 ?_ rfl T ?_ ?_;rotate_left;intro w' h;go_simp;rfl;refine tk 6 ?_ rfl T ?_ ?_;rotate_left;intro w' h;go_simp;rfl;refine tk 7 ?_ rfl T ?_ ?_;rotate_left;intro w' h;go_simp;rfl;refine tk 8 ?_ rfl T ?_ ?_;rotate_left;intro w' h;go_simp;rfl;refine tk 9 ?_ rfl T ?_ ?_;rotate_left;intro w' h;go_simp;rfl;refine tk 10 ?_ rfl T ?_ ?_;rotate_left;intro w' h;go_simp;rfl;refine Dp 5 λK f=>?_;go_simp;go_at_call 282;refine(o0 _ _).mono ?_;rintro e w3⟨rfl,rfl⟩;refine f _ _ (λ_=>T) ?_;clear f K;refine bT (i:=11) (v:=S y) rfl (by kernel_rfl) (by kernel_rfl) (by kernel_rfl) (by kernel_rfl) (by decide) (λ_ _ _ h=>h) T (Or.inl ⟨by rfl,?_⟩) ?_;focus (intro w' h;go_simp;exact HY.o)
 refine Dp 12 λK f=>?_;go_simp;refine f _ _ (λ_=>T) ?_;refine dN ?_;gi_wp2_with (gi_at_builtin;(refine wpListIn_append_own_at _ rfl _ _ 81 rfl w.heap.size 9 i0 (.string ⟨#[]⟩) 1 16 underlying81 hi av ax ay rfl g5 v (hu df j).length (hu (λs=>S s) (hu df j)) ?_ ?_ ⟨d.heap.size+1,0,Y⟩ 1 1 [gy {data:=((48+e9 d1)::(48+e9 d2)::y).toArray}] ?_ ?_ ?_ ?_ ?_ ?_ ?_ ?_);(focus rfl);(focus exact l8 ((G.o.alloc _).alloc _));(focus rfl);(focus rfl);(focus exact xC _ _ _ _);(focus simp[gx]);(focus (unfold maxLen;rw[fz];omega));(focus (rw[fz];omega));(focus (have:=a0.o.size;simp;omega));intro v' w1 L a8 _ I;obtain⟨g',aS,rfl⟩:=ownsRow_succ L;have a6:=zI a (cs #[he IntKind.u8 (48+d1),he IntKind.u8 (48+d2)] 5) (cs #[gy {data:=((48+e9 d1)::(48+e9 d2)::y).toArray}] 9);obtain⟨P,A,u,r⟩:=oI (z:=df x) Q.o a6 (em _) (zT ((p.o.alloc _).alloc _)) (l8 ((G.o.alloc _).alloc _)) a9.o (by rw[R.o];exact L) a8 I;rw[fz]at A u r;have aT:=P.cell;have b1:=P.frozen;have a4:=Z A;have a3:=Z u;have a2:=Z r;clear A u r I)
 exact⟨a4.o,a3.o,by have h:=a2.o;rw[<- hW,<- gt]at h;exact h⟩
def ixGo(a:Bs):List af->Nat->Option Nat
 |[],_=>Y
 |f::l,i=>if f.tag=a then X i else ixGo a l (i+1)
def ixI:Option Nat->Int
 |some k=>k
 |none=> -1
theorem wR(a:Bs)(l:List af)(i:Nat):(∃k,ixGo a l i=X k/\∃h:k-i<l.length,i<=k/\l.find? (λf=>f.tag==a)=X l[k-i])∨(ixGo a l i=Y/\l.find? (λf=>f.tag==a)=Y):=by
 induction l generalizing i with
 |nil=>exact .inr ⟨rfl,rfl⟩
 |cons f l ih=>
  unfold ixGo;by_cases h:f.tag=a
  .rw[if_pos h];exact .inl ⟨i,rfl,by simp,em _,by simp[h]⟩
  rw[if_neg h,List.find?_cons_of_neg (by simpa using h)];rcases ih (i+1)with⟨k,c,d,g,b⟩|⟨c,b⟩
  .have e:k-i=k-(i+1)+1:=by omega
   refine .inl ⟨k,c,by simp only[e6];omega,by omega,?_⟩;rw[b];simp only[e,List.getElem_cons_succ]
  exact .inr ⟨c,b⟩
theorem rX(b:Bs)(a:List af):(∃k,ixGo b a 0=X k/\∃h:k<a.length,firstF a b=X a[k])∨(ixGo b a 0=Y/\firstF a b=Y):=by
 rcases wR b a 0 with⟨k,d,e,_,c⟩|⟨d,c⟩
 .exact .inl ⟨k,d,e,c⟩
 exact .inr ⟨d,c⟩
theorem oB{a:List af}{k:Nat}(h:k<a.length):a.drop k=a[k]::a.drop (k+1):=g2 h
def B5(g p:Nat)(b:Bs):Prop:=∀(a i x:Bs)(d:fx)(w:eQ),w.cell? ⟨p,0,Y⟩=X (S b)->
 fr prog g #[.agg #[S a,S i,S x,d],dx (X ⟨p,0,Y⟩)] w λe w'=>e=dk (dy (decide (a=b)))/\Bw w w'
theorem vS(p:Nat)(c:Bs):B5 245 p c:=by
 intro a i x d w b;have e:=bD b;have f:∀o,(w.alloc o).cell? ⟨p,0,Y⟩=X (S c):=λo=>by rw[bf _ _ _ _ e];exact b
 go_enter func245,ntmps245;go_wp2_with fail;go_ret;exact⟨am (by rw[Bool.eq_iff_iff];simp),(ex _ w).alloc (em _) _⟩
theorem ux(p:Nat)(c:Bs):B5 242 p c:=by
 intro a i x d w b;have e:=bD b;have f:∀o,(w.alloc o).cell? ⟨p,0,Y⟩=X (S c):=λo=>by rw[bf _ _ _ _ e];exact b
 go_enter func242,ntmps242;go_wp2_with fail;go_ret;exact⟨am (by rw[Bool.eq_iff_iff];simp),(ex _ w).alloc (em _) _⟩
theorem nu(p:Nat)(f:Bs)(v:fx)(c:List af)(w:eQ)(o:ag 0 w.heap.size w v c)(hn:c.length<=1000000)(n:w.cell? ⟨p,0,Y⟩=some (S f)):
 fr prog 241 #[v,.func (.func 245) #[] #[dx (some ⟨p,0,Y⟩)]] w λe w'=>e=dk (J U (ixI (ixGo f c 0)))/\Bw w w':=by
 have t:=Z o;have s:=Z n;obtain⟨a,u,rfl⟩:=o.shape;have x:=bD n;clear o n;go_enter func241,ntmps241;go_wp2_with fail;go_loopw [5,8] (λ_j i wr=>∃(k:Nat),k<=c.length/\i=J U k/\Hid (ixGo f c 0=ixGo f (c.drop k) k)/\Bw w wr) (λ_ i _=>c.length-(intOf i).toNat)
 exact⟨0,gp _,rfl,rfl,ex _ _⟩;obtain⟨k,D,rfl,l,g⟩:=hrel;by_cases hlt:k<c.length;rotate_left
 .go_wp2_with fail;go_ret;refine⟨aI ?_,g⟩;rw[l.o,ha (by omega)];rfl
 have r:ag 0 w.heap.size wr (hh a c.length u) c:=t.kept (aY g (em _));have q:wr.cell? ⟨p,0,Y⟩=some (S f):=((an g).1 p 0 x).trans s.o;obtain⟨b,E,B,d,y,C,_,z,c1,c2,A,_⟩:=r.field k hlt;cases y;have h:=Z (vS p f c[k].tag c[k].ind c[k].data d wr q);have j:Hid (ixGo f (c.drop k) k=if c[k].tag=f then some k else ixGo f (c.drop (k+1)) (k+1)):=by unfold Hid;rw[oB hlt];rfl
 clear r q;generalize c[k].tag=T at*;generalize c[k].ind=I at*;generalize c[k].data=X at*;by_cases hT:T=f
 .rw[if_pos hT]at j;rw[show decide (T=f)=true from decide_eq_true hT]at h;clear hT;go_wp2_with (go_at_call 245;(refine eg h.o ?_;rintro e w'⟨rfl,m⟩))
  go_ret;exact⟨aI (by rw[l.o,j.o];rfl),btr g m g.size⟩
 rw[if_neg hT]at j;rw[show decide (T=f)=false from decide_eq_false hT]at h;clear hT;go_wp2_with (go_at_call 245;(refine eg h.o ?_;rintro e w'⟨rfl,m⟩))
 go_roundw
 case rel=>exact⟨k+1,by omega,by go_num,by unfold Hid;rw[l.o,j.o],btr g m g.size⟩
 simp[intOf];omega
theorem nv(p:Nat)(f:Bs)(v:fx)(c:List af)(w:eQ)(o:ag 0 w.heap.size w v c)(hn:c.length<=1000000)(n:w.cell? ⟨p,0,Y⟩=some (S f)):
 fr prog 241 #[v,.func (.func 242) #[] #[dx (some ⟨p,0,Y⟩)]] w λe w'=>e=dk (J U (ixI (ixGo f c 0)))/\Bw w w':=by
 have t:=Z o;have s:=Z n;obtain⟨a,u,rfl⟩:=o.shape;have x:=bD n;clear o n;go_enter func241,ntmps241;go_wp2_with fail;go_loopw [5,8] (λ_j i wr=>∃(k:Nat),k<=c.length/\i=J U k/\Hid (ixGo f c 0=ixGo f (c.drop k) k)/\Bw w wr) (λ_ i _=>c.length-(intOf i).toNat)
 exact⟨0,gp _,rfl,rfl,ex _ _⟩;obtain⟨k,D,rfl,l,g⟩:=hrel;by_cases hlt:k<c.length;rotate_left
 .go_wp2_with fail;go_ret;refine⟨aI ?_,g⟩;rw[l.o,ha (by omega)];rfl
 have r:ag 0 w.heap.size wr (hh a c.length u) c:=t.kept (aY g (em _));have q:wr.cell? ⟨p,0,Y⟩=some (S f):=((an g).1 p 0 x).trans s.o;obtain⟨b,E,B,d,y,C,_,z,c1,c2,A,_⟩:=r.field k hlt;cases y;have h:=Z (ux p f c[k].tag c[k].ind c[k].data d wr q);have j:Hid (ixGo f (c.drop k) k=if c[k].tag=f then some k else ixGo f (c.drop (k+1)) (k+1)):=by unfold Hid;rw[oB hlt];rfl
 clear r q;generalize c[k].tag=T at*;generalize c[k].ind=I at*;generalize c[k].data=X at*;by_cases hT:T=f
 .rw[if_pos hT]at j;rw[show decide (T=f)=true from decide_eq_true hT]at h;clear hT;go_wp2_with (go_at_call 242;(refine eg h.o ?_;rintro e w'⟨rfl,m⟩))
  go_ret;exact⟨aI (by rw[l.o,j.o];rfl),btr g m g.size⟩
 rw[if_neg hT]at j;rw[show decide (T=f)=false from decide_eq_false hT]at h;clear hT;go_wp2_with (go_at_call 242;(refine eg h.o ?_;rintro e w'⟨rfl,m⟩))
 go_roundw
 case rel=>exact⟨k+1,by omega,by go_num,by unfold Hid;rw[l.o,j.o],btr g m g.size⟩
 simp[intOf];omega
def aZ(b:List ct)(a:Bs):List Bs:=(b.filter λs=>a.contains s.code).map ct.text
theorem iL(a:List ct)(b:Bs)(k:Nat)(h:k<a.length):aZ (a.take (k+1)) b=aZ (a.take k) b++if b.contains a[k].code then[a[k].text]else[]:=by
 unfold aZ;rw[ht h,ho,gt];congr 1
 generalize a[k]=x;by_cases hc:b.contains x.code=true
 .rw[if_pos hc];simp only[ft,hc,if_true,List.filter_nil,gd,List.map_nil]
 rw[if_neg hc];simp only[ft,hc,List.filter_nil];rfl
theorem eJ(a:List ct)(b:Bs):(aZ a b).length<=a.length:=by
 unfold aZ;rw[fz];exact List.length_filter_le _ _
theorem lS(a:List ct)(b:Bs)(N:Nat)(h:∀s∈a,s.text.length<=N):(joinR (aZ a b)).length<=a.length*(N+1):=by
 refine fy (iu _) ?_;unfold aZ;induction a with
 |nil=>simp
 |cons s a ih=>
  have d:=h s hl;have e:=ih λx c=>h x (hf _ c);rw[ft];split
  .simp only[gd,gs,e6,Nat.succ_mul];omega
  simp only[e6,Nat.succ_mul];omega
theorem iA(w:eQ)(o:Obj)(x:fx)(t:TypeId):∀j u,[x][j]?=X u->((w.alloc o).alloc (cs #[x] t)).cell? ((⟨w.heap.size+1,0,Y⟩:Addr).add j)=X u:=by
 have h:=cell_one_new (w.alloc o) x t;rw[fp]at h;exact h
theorem qU(a i x:Bs)(d:fx)(f:List ct)(c:UInt8)(w:eQ)(y:aw 0 w.heap.size w d f)(hn:f.length<=1000000)(t:∀s∈f,s.text.length<=1000000):
 fr prog 183 #[.agg #[S a,S i,S x,d],J dz c.toNat] w λe w'=>e=dk (S (textS f [c]))/\Bw w w':=by
 have M:=Z y;have I:Hid ((joinR (aZ f [c])).length<=140737488355328):=by have h1:=lS f [c] 1000000 t;have:f.length*(1000000+1)<=1000000*1000001:=Nat.mul_le_mul hn (em _);unfold Hid;omega
 obtain⟨O,P,rfl,_⟩:=y;clear t;obtain⟨W,r,A,n,B⟩:=hI i9;have E:=Z r;have F:=Z A;have G:=Z n;have H:=Z B;clear r A n B;go_enter func183,ntmps183;go_wp2_with fail;go_loopw [5,11] (λv j wr=>∃(k:Nat),k<=f.length/\j=J U k/\Hid (wr.ownsRow (w.heap.size+1) 9 1 v (aZ (f.take k) [c]).length ((aZ (f.take k) [c]).map λs=>S s))/\Bw w wr/\w.heap.size+1<=wr.heap.size) (λ_ j _=>f.length-(intOf j).toNat)
 exact⟨0,gp _,rfl,hr _ _ _ _,(ex _ w).alloc (em _) _,by simp⟩;obtain⟨k,hk,rfl,l,g,hz⟩:=hrel;by_cases hlt:k<f.length;rotate_left
 .have N:Hid (aZ (f.take k) [c]=aZ f [c]):=by unfold Hid;rw[g9 (by omega)]
  rw[N.o]at l;have R:=eJ f [c];have D:=Z (my (w:=wr) l.o (by omega) I.o);go_wp2_with (go_at_call 244;(refine eg D.o ?_;rintro e w2⟨rfl,q⟩))
  go_ret;exact⟨rfl,btr g q g.size⟩
 have z:aw 0 w.heap.size wr (hh O f.length P) f:=M.kept (aY g (em _));obtain⟨b,a3,a0,V,p,q,c0,c1⟩:=z.sub k hlt;cases V;have m:=Z (iL f [c] k hlt);clear z;generalize f[k].code=C at*;generalize f[k].text=T at*;have R:(aZ (f.take k) [c]).length<=1000000:=by have:=eJ (f.take k) [c];rw[fb]at this;omega
 generalize aZ (f.take k) [c]=L at*;have a2:b<wr.heap.size:=by omega
 by_cases hC:C=c
 .subst hC;rw[if_pos (by simp)]at m;go_wp2_with (at_builtin;(refine g1 _ rfl _ _ 81 rfl (w.heap.size+1) 9 W (.string ⟨#[]⟩) 1 16 underlying81 E.o F.o G.o H.o rfl g5 u5 L.length (L.map λs=>S s) ?_ ?_ ⟨wr.heap.size+1,0,Y⟩ 1 1 [S T] ?_ ?_ ?_ ?_ ?_ ?_ ?_ ?_);(focus rfl);(focus exact((l.o.alloc _).alloc _));(focus rfl);(focus rfl);(focus exact iA _ _ _ _);(focus simp[gx]);(focus (unfold maxLen;omega));(focus omega);(focus (simp;omega));intro v' w1 u o _ _;have p:Bw w w1:=((g.alloc g.size _).alloc (by have:=g.size;simp;omega) _).grown o (by have:=g.size;simp;omega) (λj Q=>by have:=(l.o.lt j Q).1;omega);have n:=o.size;have K:=Z u;clear u o)
  go_roundw;exact⟨k+1,by omega,by go_num,by unfold Hid;rw[m.o,er,gt];exact K.o,p,by simp at n;omega⟩;simp[intOf];omega
 rw[if_neg (by simpa using hC),hF]at m;have a1:((C.toNat:Int)==(c.toNat:Int))=false:=by have:C.toNat≠c.toNat:=λh=>hC (UInt8.toNat_inj.1 h);simp;omega
 clear hC;go_wp2_with fail;go_roundw
 case rel=>exact⟨k+1,by omega,by go_num,by unfold Hid;rw[m.o];exact l.o.alloc _,g.alloc g.size _,by simp;omega⟩
 simp[intOf];omega
theorem eW{lo a:Nat}{w w':eQ}{v:fx}{b:List af}(h:ag lo a w v b)(e:a<=w.heap.size)(c:Bw w w'):ag lo a w' v b:=h.kept λk _ d=>c.block k (by omega)
theorem o9{lo a:Nat}{w w':eQ}{v:fx}{b:List ct}(h:aw lo a w v b)(e:a<=w.heap.size)(c:Bw w w'):aw lo a w' v b:=h.kept λk _ d=>c.block k (by omega)
def zeroF:af:=⟨[],[],[],[]⟩
def gH(a:Nat)(w':eQ)(f:Option af)(v:fx):Prop:=∃d,v=.agg #[S (f.getD zeroF).tag,S (f.getD zeroF).ind,S (f.getD zeroF).data,d]/\aw 0 a w' d (f.getD zeroF).subs
theorem gH.up{w w':eQ}{f:Option af}{v:fx}(h:gH w.heap.size w f v)(e:Bw w w'):gH w.heap.size w' f v:=by
 obtain⟨d,a,b⟩:=h;exact⟨d,a,b.kept λk _ c=>e.block k c⟩
theorem iR{f:af}(h:(fieldBytes f).length<=1000000){q:ct}(a:q∈f.subs):q.text.length<=1000000:=by
 have:∀l:List ct,q∈l->q.text.length<=(l.flatMap aR).length:=by
  intro l;induction l with
  |nil=>intro h;cases h
  |cons s l ih=>
   intro h;rw[List.flatMap_cons,er];rcases List.mem_cons.1 h with rfl|h
   .simp only[aR,e6];omega
   have:=ih h;omega
 have:=this _ a;simp only[fieldBytes,er]at h;omega
theorem JNB{w a b:eQ}(c:Bw a b)(d:a.heap.size=w.heap.size+3):hZ w.heap.size a b:=c.mono (by omega)
theorem sy(a:Bs)(c:UInt8):a.contains c=decide (0<=g7 a c):=Lib.contains_iff_indexByte a c
theorem fB{fn:Func}{p u:Tmp}{c:TypeId}(h:fn.results= #[.tmp u,.cell p c])(b:Array fx)(P:Program)(w:eQ):
 (results fn b).run P w=
  ((asAddr (b.getD p undef)).run P w).andThen λa d=>((loadVar c a).run P d).andThen λv e=>.ok (.tuple #[b.getD u undef,v]) e:=by
 simp only[results,h];simp[Sem.run_bind,Result.andThen]
theorem qT(k l:UInt8)(x:fx)(c:List af)(y f:Bs)(w:eQ)(hs:ag 0 w.heap.size w x c)(al:bo c):
 fr prog 184 #[.agg #[J dz k.toNat,J dz l.toNat,x],S y,S f] w λe w'=>(∃v,e=dk (.tuple #[S (textF (firstF c y) f),v])/\gH w.heap.size w' (firstF c y) v)/\Bw w w':=by
 obtain⟨m,G⟩:=Qe (((w.alloc (cs #[J dz k.toNat,J dz l.toNat,x] 62)).alloc (cs #[S y] 9)).alloc (cs #[S [],S [],S [],ds Y 0 0] 123));have bt:m.heap.size=w.heap.size+3:=by rw[<- G];simp
 have Q:Bw w m:=by rw[<- G];exact(((ex _ w).alloc (em _) _).alloc (by simp) _).alloc (by simp;omega) _
 have ay:ag 0 m.heap.size m x c:=(eW hs (em _) Q).mono (em _) (by omega);have hA:m.heap[w.heap.size]?=X (cs #[J dz k.toNat,J dz l.toNat,x] 62 (0,0)):=by rw[<- G,e8 _ _ _ (by simp;omega),e8 _ _ _ (by simp)];exact es w _
 have hB:m.heap[w.heap.size+1]?=X (cs #[S y] 9 (0,0)):=by rw[<- G,e8 _ _ _ (by simp)];have:=es (w.alloc (cs #[J dz k.toNat,J dz l.toNat,x] 62)) (cs #[S y] 9);rwa[fp]at this
 have hC:m.heap[w.heap.size+1+1]?=X (cs #[S [],S [],S [],ds Y 0 0] 123 (0,0)):=by rw[<- G];have:=es ((w.alloc (cs #[J dz k.toNat,J dz l.toNat,x] 62)).alloc (cs #[S y] 9)) (cs #[S [],S [],S [],ds Y 0 0] 123);rwa[fp,fp]at this
 have a4:=Z (nu (w.heap.size+1) y x c m ay al.1 (by rw[aa hB];rfl));have a2:m.cell? ⟨w.heap.size,2,Y⟩=X x:=by rw[aa hA];rfl
 have bl:=hs;have HF:=Z hs;have HA:=Z hA;have HC:=Z hC;have N:=Z Q;have HW:=Z G;clear hA hB hC ay hs Q;rcases rX y c with⟨n,a1,hn,a0⟩|⟨a1,a0⟩;rotate_left
 .rw[a1,show ixI Y= -1 from rfl]at a4;rw[a0];clear a1 a0;go_enter func184,ntmps184;go_wp2_with (go_at_call 241;(refine eg a4.o ?_;rintro e i⟨rfl,u⟩;have o:i.heap[w.heap.size+1+1]?=X (cs #[S [],S [],S [],ds Y 0 0] 123 (0,0)):=(u.block _ (by omega)).trans HC.o;have z0:=ab o 0;have z1:=ab o 1;have z2:=ab o 2;have z3:=ab o 3;have y0:i.cell? ⟨w.heap.size+1+1,0,Y⟩=X (S []):=(by rw[aa o];rfl);have y1:i.cell? ⟨w.heap.size+1+1,1,Y⟩=X (S []):=(by rw[aa o];rfl);have y2:i.cell? ⟨w.heap.size+1+1,2,Y⟩=X (S []):=(by rw[aa o];rfl);have y3:i.cell? ⟨w.heap.size+1+1,3,Y⟩=X (ds Y 0 0):=(by rw[aa o];rfl);have bv:=Z o;clear o))
  refine gP (v:=.tuple #[S [],.agg #[S [],S [],S [],ds Y 0 0]]) (by rw[fB rfl];go_simp) rfl ?_;have r:Bw w i:=N.trans (u.mono N.size);exact⟨⟨_,rfl,ds Y 0 0,rfl,_,_,rfl,λh=>absurd rfl h⟩,(((r.setCell (p:=⟨w.heap.size+1+1,0,Y⟩) (by simp;omega) _).setCell (p:=⟨w.heap.size+1+1,1,Y⟩) (by simp;omega) _).setCell (p:=⟨w.heap.size+1+1,2,Y⟩) (by simp;omega) _).setCell (p:=⟨w.heap.size+1+1,3,Y⟩) (by simp;omega) _⟩
 rw[a1,show ixI (X n)=n from rfl]at a4;rw[a0];obtain⟨b,g,a5,d,hv,_,R,c0,c1,c2,c3,a7⟩:=bl.field n hn;subst hv;have ac:=List.getElem_mem hn;have HG:Hid (gH w.heap.size w (X c[n]) (.agg #[S c[n].tag,S c[n].ind,S c[n].data,d])):=⟨d,rfl,a7⟩;have bs:c[n].subs.length<=1000000:=fy (ci _) (al.2 _ ac);have HJ:Hid ((joinR (aZ c[n].subs f)).length<=140737488355328):=by have h1:=lS c[n].subs f 1000000 (λq hq=>iR (al.2 _ ac) hq);have:c[n].subs.length*(1000000+1)<=1000000*1000001:=Nat.mul_le_mul bs (em _);unfold Hid;omega
 obtain⟨A,B,rfl,_⟩:=id a7;have b7:=Z a7;have b9:Hid (textF (X c[n]) f=textS c[n].subs f):=rfl;generalize c[n].subs=ss at*;generalize textF (X c[n]) f=RES at*;generalize c[n].tag=T at*;generalize c[n].ind=I at*;generalize c[n].data=D at*;generalize c[n]=FF at*;have bO:(n:Int)<(c.length:Int):=by omega
 clear a1 a0 ac a7;obtain⟨i0,hi,b0,b1,ao⟩:=hI i9;have HI:=Z hi;have b3:=Z b0;have b4:=Z b1;have b5:=Z ao;clear hi b0 b1 ao;have bA:=HA.o;go_enter func184,ntmps184;go_wp2_with (go_at_call 241;(refine eg a4.o ?_;rintro e i⟨rfl,u⟩;have a3:i.cell? ⟨w.heap.size,2,Y⟩=X (ds (X ⟨b,g,Y⟩) c.length a5):=(((an u).1 w.heap.size 2 (by omega)).trans a2);have d3:i.cell? ⟨b,g+n*4+3,Y⟩=X (ds A ss.length B):=((an u).1 b _ (by omega)).trans (((an N.o).1 b _ R).trans c3)))
 have b8:Hid (aw 0 w.heap.size i (hh A ss.length B) ss):=o9 (o9 b7.o (em _) N.o) (by omega) u;have ao:=u.size;have b6:=Z u;clear d3;go_loopw [9,26] (λv j wr=>∃(q:Nat),q<=ss.length/\j=J U q/\Hid (wr.ownsRow (w.heap.size+3) 9 1 v (aZ (ss.take q) f).length ((aZ (ss.take q) f).map λs=>S s))/\hZ (w.heap.size+3) i wr/\w.heap.size+3<=wr.heap.size) (λ_ j _=>ss.length-(intOf j).toNat)
 case atStart=>exact⟨0,gp _,rfl,hr _ _ _ _,ex _ _,by omega⟩
 obtain⟨q,hq,rfl,O,H,hz⟩:=hrel;by_cases hlt:q<ss.length
 .have aT:aw 0 w.heap.size wr (hh A ss.length B) ss:=b8.o.kept (aY H (by omega));obtain⟨b',bY,bw,hv,_,bB,e0,e1⟩:=aT.sub q hlt;cases hv;have HN:=Z (iL ss f q hlt);have bb:(aZ (ss.take q) f).length<=1000000:=by have:=eJ (ss.take q) f;rw[fb]at this;omega
  have av:Hid (∀W,fr prog 246 #[S f,J dz ss[q].code.toNat] W λe w'=>e=dk (J U (g7 f ss[q].code))/\W=w'):=λW=>(strings_IndexByte ⟨f.toArray⟩ ss[q].code.toNat W).mono λe w' h=>⟨by rw[h.1];simp,h.2.symm⟩;have M:=sy f ss[q].code;clear aT;generalize ss[q].code=C at*;generalize ss[q].text=TT at*;generalize g7 f C=ixc at*;generalize f.contains C=cc at*;generalize aZ (ss.take q) f=L at*;have V:b'<wr.heap.size:=by omega
  cases cc
  .rw[if_neg (by simp),hF]at HN;have bk:¬(0<=ixc):=λh=>by rw[decide_eq_true h]at M;cases M
   clear M;go_wp2_with (go_at_call 246;(refine eg (av.o _) ?_;rintro e w3⟨rfl,rfl⟩))
   go_roundw;exact⟨q+1,by omega,by go_num,by unfold Hid;rw[HN.o];exact O.o.alloc _,H.alloc (by omega) _,by simp;omega⟩;simp[intOf];omega
  rw[if_pos rfl]at HN;have bk:0<=ixc:=by
   by_cases h:0<=ixc
   .exact h
   rw[decide_eq_false h]at M;cases M
  clear M
  go_wp2_with (first
   |(go_at_call 246;((with_reducible refine eg (av.o _) ?_);rintro e w3⟨rfl,rfl⟩))
   |(at_builtin;(refine g1 _ rfl _ _ 81 rfl (w.heap.size+3) 9 i0 (.string ⟨#[]⟩) 1 16 underlying81 HI.o b3.o b4.o b5.o rfl g5 u9 L.length (L.map λs=>S s) ?_ ?_ ⟨wr.heap.size+1,0,Y⟩ 1 1 [S TT] ?_ ?_ ?_ ?_ ?_ ?_ ?_ ?_);(focus rfl);(focus exact((O.o.alloc _).alloc _));(focus rfl);(focus rfl);(focus exact iA _ _ _ _);(focus simp[gx]);(focus (unfold maxLen;omega));(focus omega);(focus (simp;omega));intro v' w1 aS a9 _ _;have Q:hZ (w.heap.size+3) i w1:=((H.alloc (by omega) _).alloc (by simp;omega) _).grown a9 (by simp;omega) (λj ej=>(O.o.lt j ej).1);have b2:=a9.size;have HO:=Z aS;clear aS a9))
  go_roundw
  case rel=>exact⟨q+1,by omega,by go_num,by unfold Hid;rw[HN.o,er,gt];exact HO.o,Q,by simp at b2;omega⟩
  simp[intOf];omega
 have HT:Hid (aZ (ss.take q) f=aZ ss f):=by unfold Hid;rw[g9 (by omega)]
 rw[HT.o]at O;have bb:=eJ ss f;have HF:=Z (my (w:=wr.drew) (l8 O.o) (by omega) HJ.o);have b2:=hz;have r:Bw w wr:=N.o.trans ((JNB b6.o bt).trans (H.mono (by omega)));have au:=Z r;have a8:∀W,Bw wr W->(W.cell? ⟨w.heap.size,2,Y⟩=X (ds (X ⟨b,g,Y⟩) c.length a5)/\W.cell? ⟨b,g+n*4,Y⟩=X (S T)/\W.cell? ⟨b,g+n*4+1,Y⟩=X (S I)/\W.cell? ⟨b,g+n*4+2,Y⟩=X (S D)/\W.cell? ⟨b,g+n*4+3,Y⟩=X (ds A ss.length B)):=λW P=>by
  have V:b<wr.heap.size:=by omega
  have e2:wr.cell? ⟨w.heap.size,2,Y⟩=X (ds (X ⟨b,g,Y⟩) c.length a5):=by rw[World.cell?_of_block (w:=i) (a:=⟨w.heap.size,2,Y⟩) (H.block _ (by show w.heap.size<_;omega))];exact a3
  refine⟨((an P).1 _ _ (by omega)).trans e2,?_,?_,?_,?_⟩
  .exact((an P).1 _ _ V).trans (((an r).1 _ _ R).trans c0)
  .exact((an P).1 _ _ V).trans (((an r).1 _ _ R).trans c1)
  .exact((an P).1 _ _ V).trans (((an r).1 _ _ R).trans c2)
  exact((an P).1 _ _ V).trans (((an r).1 _ _ R).trans c3)
 have F:=a8 wr.drew ((ex _ wr).drew);have ax:=Z a8;clear a8 r;go_wp2_with fail;refine wT (λW=>(W.cell? ⟨w.heap.size,2,Y⟩=X (ds (X ⟨b,g,Y⟩) c.length a5)/\W.cell? ⟨b,g+n*4,Y⟩=X (S T)/\W.cell? ⟨b,g+n*4+1,Y⟩=X (S I)/\W.cell? ⟨b,g+n*4+2,Y⟩=X (S D)/\W.cell? ⟨b,g+n*4+3,Y⟩=X (ds A ss.length B))) 8 ?_;refine tk 0 ?_ rfl F ?_ ?_;rotate_left;intro w' h;go_simp;rfl;refine tk 2 ?_ rfl F ?_ ?_;rotate_left;intro w' h;go_simp;rfl;refine tk 3 ?_ rfl F ?_ ?_;rotate_left;rintro w'⟨h0,h1,h2,h3,h4⟩;go_simp;rfl;refine tk 4 ?_ rfl F ?_ ?_;rotate_left;intro w' h;go_simp;rfl;refine tk 5 ?_ rfl F ?_ ?_;rotate_left;intro w' h;go_simp;rfl;refine tk 6 ?_ rfl F ?_ ?_;rotate_left;rintro w'⟨h0,h1,h2,h3,h4⟩;go_simp;rfl;refine Dp 1 λK z=>?_;go_simp;go_at_call 244;refine HF.mono ?_;rintro e E⟨rfl,bd⟩;have a6:Bw wr E:=(ex _ wr).drew.trans bd;refine z _ _ (λ_=>ax _ a6) ?_;clear z K;have t:E.heap[w.heap.size+1+1]?=X (cs #[S [],S [],S [],ds Y 0 0] 123 (0,0)):=(a6.block _ (by omega)).trans ((H.block _ (by omega)).trans ((u.block _ (by omega)).trans HC.o));have z0:=ab t 0;have z1:=ab t 1;have z2:=ab t 2;have z3:=ab t 3;have y0:E.cell? ⟨w.heap.size+1+1,0,Y⟩=X (S []):=(by rw[aa t];rfl);have y1:E.cell? ⟨w.heap.size+1+1,1,Y⟩=X (S []):=(by rw[aa t];rfl);have y2:E.cell? ⟨w.heap.size+1+1,2,Y⟩=X (S []):=(by rw[aa t];rfl);have y3:E.cell? ⟨w.heap.size+1+1,3,Y⟩=X (ds Y 0 0):=(by rw[aa t];rfl);have bc:=ax _ a6;clear t;refine Ds 7 bc ?_;refine Dl 8 ?_;go_wp2;refine gP (v:=.tuple #[S (joinR (aZ ss f)),.agg #[S T,S I,S D,ds A ss.length B]]) (by rw[fB rfl];go_simp) rfl ?_;have r:Bw w E:=au.trans (a6.mono au.size);have aC:=(((r.setCell (p:=⟨w.heap.size+1+1,0,Y⟩) (by simp;omega) (S T)).setCell (p:=⟨w.heap.size+1+1,1,Y⟩) (by simp;omega) (S I)).setCell (p:=⟨w.heap.size+1+1,2,Y⟩) (by simp;omega) (S D)).setCell (p:=⟨w.heap.size+1+1,3,Y⟩) (by simp;omega) (ds A ss.length B);exact⟨⟨_,by rw[b9.o];rfl,gH.up HG.o aC⟩,aC⟩
def skI(a:Bs):Nat:=match a with
 |_::c::_=>if digitB c then c.toNat-48 else 0
 |_=>0
theorem lq(a c:UInt8)(r:Bs):skI (a::c::r)=if digitB c then c.toNat-48 else 0:=rfl
theorem rj(f:Option af):yr f=skI (f.getD zeroF).ind:=by
 cases f with
 |none=>rfl
 |some f=> obtain⟨t,i,d,s⟩:=f;rcases i with _|⟨a,_|⟨c,r⟩⟩<;>rfl
theorem nP(f:af)(a:Bs):(textS f.subs a).length<=(fieldBytes f).length:=by
 have c:(textS f.subs a).length<=((aZ f.subs a).map λs=>s.length+1).sum:=iu _;have b:∀l:List ct,((aZ l a).map λs=>s.length+1).sum<=(l.flatMap aR).length:=by
  intro l;induction l with
  |nil=>simp[aZ]
  |cons s l ih=>
   rw[List.flatMap_cons,er];unfold aZ at*;rw[ft];have e:(aR s).length=s.text.length+2:=by simp[aR]
   split
   .simp only[gd,gs];omega
   omega
 have d:=b f.subs;simp only[fieldBytes,er]at*;omega
theorem eK{a:List af}{b:Bs}{f:af}(h:firstF a b=X f):f∈a:=List.mem_of_find?_eq_some h
theorem cE{a:List af}(d:bo a)(c b:Bs):(textF (firstF a c) b).length<=1000000:=by
 cases h:firstF a c with
 |none=>simp[textF]
 |some f=>exact fy (nP f b) (d.2 f (eK h))
theorem nN(k l:UInt8)(x:fx)(b:List af)(w:eQ)(L:ag 0 w.heap.size w x b)(H:bo b):
 fr prog 178 #[.agg #[J dz k.toNat,J dz l.toNat,x]] w λe w'=>e=dk (S (aK b))/\Bw w w':=by
 have a0:(w.alloc (cs #[J dz k.toNat,J dz l.toNat,x] 62)).heap.size=w.heap.size+1:=by simp
 have E:Bw w (w.alloc (cs #[J dz k.toNat,J dz l.toNat,x] 62)):=(ex _ w).alloc (em _) _;have o:=Z (qT k l x b [50,52,53] [97,98] (w.alloc (cs #[J dz k.toNat,J dz l.toNat,x] 62)) ((eW L (em _) E).mono (em _) (by omega)) H);have M:=Z (cE H [50,52,53] [97,98]);have h:Hid (aK b=dA (textF (firstF b [50,52,53]) [97,98]) (skI ((firstF b [50,52,53]).getD zeroF).ind)):=by unfold Hid aK;rw[rj];rfl
 have t:=Z E;clear L H E;generalize textF (firstF b [50,52,53]) [97,98]=T at*;unfold gH at o;generalize(firstF b [50,52,53]).getD zeroF=g at*;obtain⟨D,B,A,C⟩:=g;change Hid (aK b=dA T (skI B))at h;change Hid (fr prog 184 _ _ λe w'=>(∃v,e=dk (.tuple #[S T,v])/\∃d,v=.agg #[S D,S B,S A,d]/\aw 0 _ w' d C)/\hZ _ _ w')at o;have y:Hid (∀(q:Nat)(W:eQ),q<=1000->fr prog 231 #[S T,J U q] W λe w'=>e=dk (S (dA T q))/\Bw W w'):=λq W N=>yo T q M.o N W;rcases B with _|⟨a,_|⟨c,r⟩⟩
 .change Hid (aK b=dA T 0)at h;go_enter func178,ntmps178
  go_wp2_with (first
   |(go_at_call 184;((with_reducible refine eg o.o ?_);rintro e i⟨⟨v,rfl,_,rfl,p,s,rfl,_⟩,j⟩))
   |(go_at_call 231;((with_reducible refine eg (y.o 0 _ (by omega)) ?_);rintro e I⟨rfl,m⟩)))
  go_ret;have f:Bw w i:=t.o.trans (j.mono (by simp));exact⟨by rw[h.o];rfl,(f.alloc f.size _).trans (m.mono (by have:=f.size;simp;omega))⟩
 .change Hid (aK b=dA T 0)at h;go_enter func178,ntmps178
  go_wp2_with (first
   |(go_at_call 184;((with_reducible refine eg o.o ?_);rintro e i⟨⟨v,rfl,_,rfl,p,s,rfl,_⟩,j⟩))
   |(go_at_call 231;((with_reducible refine eg (y.o 0 _ (by omega)) ?_);rintro e I⟨rfl,m⟩)))
  go_ret;have f:Bw w i:=t.o.trans (j.mono (by simp));exact⟨by rw[h.o];rfl,(f.alloc f.size _).trans (m.mono (by have:=f.size;simp;omega))⟩
 have u:Hid (∀W,fr prog 230 #[S [c]] W λe w'=>e=dk (dy (digitB c))/\Bw W w'):=λW=>by have:=dM [c] W (by simp);rwa[show[c].all digitB=digitB c by simp]at this
 have V:(1:Int)<((a::c::r).length:Int):=by simp;omega
 by_cases hd:digitB c=true
 .have z:Hid (aK b=dA T (c.toNat-48)):=by unfold Hid;rw[h.o];rw[lq,if_pos hd]
  rw[hd]at u;obtain⟨O,P⟩:=dZ hd;have Q:((c.toNat:Int)-48)=((c.toNat-48:Nat):Int):=by omega
  have R:c.toNat-48<=9:=by omega
  clear h hd;generalize c.toNat-48=q at*;go_enter func178,ntmps178
  go_wp2_with (first
   |(go_at_call 184;((with_reducible refine eg o.o ?_);rintro e i⟨⟨v,rfl,_,rfl,p,s,rfl,_⟩,j⟩))
   |(go_at_call 230;((with_reducible refine eg (u.o _) ?_);rintro e K⟨rfl,n⟩;have c1:K.cell? ⟨i.heap.size,1,Y⟩=X (S (a::c::r)):=((an n).1 _ _ (by simp)).trans (by rw[hb];rfl)))
   |(go_at_call 231;((with_reducible refine eg (y.o q _ (by omega)) ?_);rintro e I⟨rfl,m⟩)))
  go_ret;have f:Bw w i:=t.o.trans (j.mono (by simp));have G:=f.size;have F:=f.alloc G (cs #[S D,S (a::c::r),S A,ds p C.length s] 123);exact⟨by rw[z.o];rfl,(F.trans (n.mono (by simp;omega))).trans (m.mono (by have:=n.size;simp at this;omega))⟩
 have z:Hid (aK b=dA T 0):=by unfold Hid;rw[h.o];rw[lq,if_neg hd]
 rw[show digitB c=false by simpa using hd]at u;clear h hd;go_enter func178,ntmps178
 go_wp2_with (first
  |(go_at_call 184;((with_reducible refine eg o.o ?_);rintro e i⟨⟨v,rfl,_,rfl,p,s,rfl,_⟩,j⟩))
  |(go_at_call 230;((with_reducible refine eg (u.o _) ?_);rintro e K⟨rfl,n⟩;have c1:K.cell? ⟨i.heap.size,1,Y⟩=X (S (a::c::r)):=((an n).1 _ _ (by simp)).trans (by rw[hb];rfl)))
  |(go_at_call 231;((with_reducible refine eg (y.o 0 _ (by omega)) ?_);rintro e I⟨rfl,m⟩)))
 go_ret;have f:Bw w i:=t.o.trans (j.mono (by simp));have G:=f.size;have F:=f.alloc G (cs #[S D,S (a::c::r),S A,ds p C.length s] 123);exact⟨by rw[z.o];rfl,(F.trans (n.mono (by simp;omega))).trans (m.mono (by have:=n.size;simp at this;omega))⟩
theorem bx{fn:Func}{p u:Tmp}{c:TypeId}(h:fn.results= #[.cell p c,.tmp u])(b:Array fx)(P:Program)(w:eQ):
 (results fn b).run P w=
  ((asAddr (b.getD p undef)).run P w).andThen λa d=>((loadVar c a).run P d).andThen λv e=>.ok (.tuple #[v,b.getD u undef]) e:=by
 simp only[results,h];simp[Sem.run_bind,Result.andThen]
theorem oA(k l:UInt8)(x:fx)(c:List af)(j:Bs)(w:eQ)(E:ag 0 w.heap.size w x c)(V:c.length<=1000000):
 fr prog 181 #[.agg #[J dz k.toNat,J dz l.toNat,x],S j] w λe w'=>(∃v,e=dk (.tuple #[v,dy (firstF c j).isSome])/\gH w.heap.size w' (firstF c j) v)/\Bw w w':=by
 obtain⟨g,o⟩:=Qe (((w.alloc (cs #[J dz k.toNat,J dz l.toNat,x] 62)).alloc (cs #[S j] 9)).alloc (cs #[S [],S [],S [],ds Y 0 0] 123));have a1:g.heap.size=w.heap.size+3:=by rw[<- o];simp
 have B:Bw w g:=by rw[<- o];exact(((ex _ w).alloc (em _) _).alloc (by simp) _).alloc (by simp;omega) _
 have L:ag 0 g.heap.size g x c:=(eW E (em _) B).mono (em _) (by omega);have A:g.heap[w.heap.size]?=X (cs #[J dz k.toNat,J dz l.toNat,x] 62 (0,0)):=by rw[<- o,e8 _ _ _ (by simp;omega),e8 _ _ _ (by simp)];exact es w _
 have H:g.heap[w.heap.size+1]?=X (cs #[S j] 9 (0,0)):=by rw[<- o,e8 _ _ _ (by simp)];have:=es (w.alloc (cs #[J dz k.toNat,J dz l.toNat,x] 62)) (cs #[S j] 9);rwa[fp]at this
 have K:g.heap[w.heap.size+1+1]?=X (cs #[S [],S [],S [],ds Y 0 0] 123 (0,0)):=by rw[<- o];have:=es ((w.alloc (cs #[J dz k.toNat,J dz l.toNat,x] 62)).alloc (cs #[S j] 9)) (cs #[S [],S [],S [],ds Y 0 0] 123);rwa[fp,fp]at this
 have t:=Z (nv (w.heap.size+1) j x c g L V (by rw[aa H];rfl));have O:g.cell? ⟨w.heap.size,2,Y⟩=X x:=by rw[aa A];rfl
 have W:=E;have HA:=Z A;have G:=Z K;have m:=Z B;clear A H K L E B;rcases rX j c with⟨n,r,hn,q⟩|⟨r,q⟩;rotate_left
 .rw[r,show ixI Y= -1 from rfl]at t;rw[q];clear r q;go_enter func181,ntmps181;go_wp2_with (go_at_call 241;(refine eg t.o ?_;rintro e f⟨rfl,i⟩;have a:f.heap[w.heap.size+1+1]?=X (cs #[S [],S [],S [],ds Y 0 0] 123 (0,0)):=(i.block _ (by omega)).trans G.o;have z0:=ab a 0;have z1:=ab a 1;have z2:=ab a 2;have z3:=ab a 3;have y0:f.cell? ⟨w.heap.size+1+1,0,Y⟩=X (S []):=(by rw[aa a];rfl);have y1:f.cell? ⟨w.heap.size+1+1,1,Y⟩=X (S []):=(by rw[aa a];rfl);have y2:f.cell? ⟨w.heap.size+1+1,2,Y⟩=X (S []):=(by rw[aa a];rfl);have y3:f.cell? ⟨w.heap.size+1+1,3,Y⟩=X (ds Y 0 0):=(by rw[aa a];rfl);clear a))
  refine gP (v:=.tuple #[.agg #[S [],S [],S [],ds Y 0 0],dy false]) (by rw[bx rfl];go_simp) rfl ?_;have C:Bw w f:=m.trans (i.mono m.size);exact⟨⟨_,rfl,ds Y 0 0,rfl,_,_,rfl,λh=>absurd rfl h⟩,(((C.setCell (p:=⟨w.heap.size+1+1,0,Y⟩) (by simp;omega) _).setCell (p:=⟨w.heap.size+1+1,1,Y⟩) (by simp;omega) _).setCell (p:=⟨w.heap.size+1+1,2,Y⟩) (by simp;omega) _).setCell (p:=⟨w.heap.size+1+1,3,Y⟩) (by simp;omega) _⟩
 rw[r,show ixI (X n)=n from rfl]at t;rw[q];obtain⟨b,s,R,d,hv,_,u,P,c1,c2,Q,F⟩:=W.field n hn;subst hv;have N:Hid (gH w.heap.size w (X c[n]) (.agg #[S c[n].tag,S c[n].ind,S c[n].data,d])):=⟨d,rfl,F⟩;obtain⟨y,z,rfl,_⟩:=id F;generalize c[n].subs=ss at*;generalize c[n].tag=T at*;generalize c[n].ind=I at*;generalize c[n].data=D at*;generalize c[n]=FF at*;have a0:(n:Int)<(c.length:Int):=by omega
 clear r q F;go_enter func181,ntmps181;go_wp2_with (go_at_call 241;(refine eg t.o ?_;rintro e f⟨rfl,i⟩;have a3:f.cell? ⟨w.heap.size,2,Y⟩=X (ds (X ⟨b,s,Y⟩) c.length R):=(((an i).1 w.heap.size 2 (by omega)).trans O);have e0:f.cell? ⟨b,s+n*4,Y⟩=X (S T):=((an i).1 b _ (by omega)).trans (((an m.o).1 b _ u).trans P);have e1:f.cell? ⟨b,s+n*4+1,Y⟩=X (S I):=((an i).1 b _ (by omega)).trans (((an m.o).1 b _ u).trans c1);have e2:f.cell? ⟨b,s+n*4+2,Y⟩=X (S D):=((an i).1 b _ (by omega)).trans (((an m.o).1 b _ u).trans c2);have e3:f.cell? ⟨b,s+n*4+3,Y⟩=X (ds y ss.length z):=((an i).1 b _ (by omega)).trans (((an m.o).1 b _ u).trans Q);have a:f.heap[w.heap.size+1+1]?=X (cs #[S [],S [],S [],ds Y 0 0] 123 (0,0)):=(i.block _ (by omega)).trans G.o;have z0:=ab a 0;have z1:=ab a 1;have z2:=ab a 2;have z3:=ab a 3;have y0:f.cell? ⟨w.heap.size+1+1,0,Y⟩=X (S []):=(by rw[aa a];rfl);have y1:f.cell? ⟨w.heap.size+1+1,1,Y⟩=X (S []):=(by rw[aa a];rfl);have y2:f.cell? ⟨w.heap.size+1+1,2,Y⟩=X (S []):=(by rw[aa a];rfl);have y3:f.cell? ⟨w.heap.size+1+1,3,Y⟩=X (ds Y 0 0):=(by rw[aa a];rfl);clear a))
 refine gP (v:=.tuple #[.agg #[S T,S I,S D,ds y ss.length z],dy true]) (by rw[bx rfl];go_simp) rfl ?_;have C:Bw w f:=m.trans (i.mono m.size);have M:=(((C.setCell (p:=⟨w.heap.size+1+1,0,Y⟩) (by simp;omega) (S T)).setCell (p:=⟨w.heap.size+1+1,1,Y⟩) (by simp;omega) (S I)).setCell (p:=⟨w.heap.size+1+1,2,Y⟩) (by simp;omega) (S D)).setCell (p:=⟨w.heap.size+1+1,3,Y⟩) (by simp;omega) (ds y ss.length z);exact⟨⟨_,rfl,gH.up N.o M⟩,M⟩
theorem ns(s:Bs)(h:s.length≠4):aM s= -1:=by unfold aM;rw[if_neg λa=>h a.1]
theorem ez:∀s:Bs,s.length<4->bp s= -1
 |[],_=>rfl
 |c::l,h=>by
  unfold bp
  have:aM ((c::l).take 4)= -1:=ns _ (by rw[fb];simp only[e6]at*;omega)
  rw[this,if_neg (by omega)]
  exact ez l (by simp only[e6]at h;omega)
theorem eY(s:Bs)(k:Nat)(h:k<s.length):bp (s.drop k)=if 0<=aM ((s.drop k).take 4)then aM ((s.drop k).take 4)else bp (s.drop (k+1)):=by
 rw[g2 h];rfl
theorem jV(o:Option af)(a:Bs):textF o a=textS (o.getD zeroF).subs a:=by
 cases o<;>rfl
theorem aw.up2{c:Nat}{w w':eQ}{v:fx}{d:List ct}(h:aw 0 c w v d)(a:Bw w w')(b:c<=w.heap.size):aw 0 w'.heap.size w' v d:=
 (o9 h b a).mono (em _) (fy b a.size)
theorem bm(w:eQ)(o:Obj):Bw w (w.alloc o):=(ex _ w).alloc (em _) _
theorem xR(k l:UInt8)(x:fx)(b:List af)(w:eQ)(hs:ag 0 w.heap.size w x b)(a3:bo b):
 fr prog 179 #[.agg #[J dz k.toNat,J dz l.toNat,x]] w λe w'=>e=dk (J U (br b))/\Bw w w':=by
 have HS:=Z hs;have n:Hid (∀W,hZ (w.heap.size+1) (w.alloc (cs #[J dz k.toNat,J dz l.toNat,x] 62)) W->W.cell? ⟨w.heap.size,0,Y⟩=X (J dz k.toNat)/\W.cell? ⟨w.heap.size,1,Y⟩=X (J dz l.toNat)/\W.cell? ⟨w.heap.size,2,Y⟩=X x):=λW h=>by have:W.heap[w.heap.size]?=X (cs #[J dz k.toNat,J dz l.toNat,x] 62 (0,0)):=(h.block _ (by omega)).trans (es w _);exact⟨by rw[aa this];rfl,by rw[aa this];rfl,by rw[aa this];rfl⟩
 have H1:Hid (∀(p:Bs)(W:eQ),Bw w W->fr prog 181 #[.agg #[J dz k.toNat,J dz l.toNat,x],S p] W λe w'=>(∃v,e=dk (.tuple #[v,dy (firstF b p).isSome])/\∃d,v=.agg #[S ((firstF b p).getD zeroF).tag,S ((firstF b p).getD zeroF).ind,S ((firstF b p).getD zeroF).data,d]/\aw 0 W.heap.size w' d ((firstF b p).getD zeroF).subs)/\Bw W w'):=λp W j=>
  oA k l x b p W ((eW HS.o (em _) j).mono (em _) j.size) a3.1
 have a0:Hid (∀p,((firstF b p).getD zeroF).subs.length<=1000000/\(∀s∈((firstF b p).getD zeroF).subs,s.text.length<=1000000)/\(textS ((firstF b p).getD zeroF).subs [99]).length<=1000000/\((firstF b p).getD zeroF).data.length<=1000000):=λp=>by
  cases h:firstF b p with
  |none=>exact⟨by simp[zeroF],by simp[zeroF],by simp[zeroF,textS,joinR],by simp[zeroF]⟩
  |some f=>
   have hm:=a3.2 f (eK h);refine⟨fy (ci f) hm,λs hs=>iR hm hs,fy (nP f [99]) hm,?_⟩;have:f.data.length<=(fieldBytes f).length:=by simp only[fieldBytes,er];omega
   exact fy this hm
 have HY:Hid (br b=if 0<=fo b then fo b else bp (textS ((firstF b [50,54,48]).getD zeroF).subs [99])):=by unfold Hid br;rw[jV];rfl
 have a1:Hid (fo b=if(firstF b [48,48,56]).isSome=true/\11<=((firstF b [48,48,56]).getD zeroF).data.length then aM ((((firstF b [48,48,56]).getD zeroF).data.take 11).drop 7)else -1):=by
  unfold Hid fo;show(match firstF b [48,48,56]with|some f=>_|none=>_)=_;cases firstF b [48,48,56]with
  |none=>rfl
  |some f=>simp[B8]
 have H2:Hid (∀W,Bw w W->fr prog 181 #[.agg #[J dz k.toNat,J dz l.toNat,x],S [50,54,48]] W λe w'=>(∃v,e=dk (.tuple #[v,dy (firstF b [50,54,48]).isSome])/\∃d,v=.agg #[S ((firstF b [50,54,48]).getD zeroF).tag,S ((firstF b [50,54,48]).getD zeroF).ind,S ((firstF b [50,54,48]).getD zeroF).data,d]/\aw 0 W.heap.size w' d ((firstF b [50,54,48]).getD zeroF).subs)/\Bw W w'):=H1.o [50,54,48];have H0:=Z (H1.o [48,48,56]);obtain⟨m1,m2,m3,_⟩:=a0.o [50,54,48];obtain⟨_,_,_,m4⟩:=a0.o [48,48,56]
 have H3:Hid (∀(a i D:Bs)(W:eQ)(d:fx),aw 0 W.heap.size W d ((firstF b [50,54,48]).getD zeroF).subs->fr prog 183 #[.agg #[S a,S i,S D,d],J dz 99] W λe w'=>e=dk (S (textS ((firstF b [50,54,48]).getD zeroF).subs [99]))/\Bw W w'):=λa i D W d h=>
  qU a i D d _ 99 W h m1 m2
 have HN:Hid (∀(s:Bs)(W:eQ),s.length<=1000000->fr prog 232 #[S s] W λe w'=>e=dk (J U (aM s))/\Bw W w'):=λs W h=>tZ s W h;clear H1 a0 hs a3 m2;generalize(firstF b [50,54,48]).isSome=b6 at*;generalize(firstF b [48,48,56]).isSome=b8 at*;generalize(firstF b [50,54,48]).getD zeroF=g6 at*;generalize(firstF b [48,48,56]).getD zeroF=g8 at*;obtain⟨t6,i6,d6,s6⟩:=g6;obtain⟨t8,i8,I,s8⟩:=g8;dsimp only at*;generalize textS s6 [99]=T at*;have A:Hid (Bw w (w.alloc (cs #[J dz k.toNat,J dz l.toNat,x] 62))):=(ex _ w).alloc (em _) _;have au:(w.alloc (cs #[J dz k.toNat,J dz l.toNat,x] 62)).heap.size=w.heap.size+1:=by simp
 cases b8
 .have B:Hid (br b=bp T):=by unfold Hid;rw[HY.o,a1.o,if_neg (by simp)]
  go_enter func179,ntmps179
  go_wp2_with (first
   |(go_at_call 181;((with_reducible refine eg (H0.o _ A.o) ?_);rintro e g⟨⟨v,rfl,dd,rfl,m⟩,u⟩;obtain⟨ad,cp,rfl,_⟩:=m;have c:Hid (∀o,hZ (w.heap.size+1) (w.alloc (cs #[J dz k.toNat,J dz l.toNat,x] 62)) (g.alloc o)):=λo=>(u.mono (by omega)).alloc (by have:=u.size;omega) o;have C:Hid (∀o,Bw w (g.alloc o)):=λo=>A.o.trans ((c.o o).mono (by omega));have xa:∀o,(g.alloc o).cell? ⟨w.heap.size,0,Y⟩=X (J dz k.toNat):=λo=>(n.o _ (c.o o)).1;have xb:∀o,(g.alloc o).cell? ⟨w.heap.size,1,Y⟩=X (J dz l.toNat):=λo=>(n.o _ (c.o o)).2.1;have xc:∀o,(g.alloc o).cell? ⟨w.heap.size,2,Y⟩=X x:=λo=>(n.o _ (c.o o)).2.2))
   |(go_at_call 181;((with_reducible refine eg (H2.o _ (C.o _)) ?_);rintro e R⟨⟨v5,rfl,d5,rfl,m⟩,G⟩;obtain⟨a6,a7,rfl,_⟩:=id m;have M:=Z m;clear m))
   |(go_at_call 183;((with_reducible refine eg (H3.o _ _ _ _ _ (M.o.up2 (bm _ _) G.size)) ?_);rintro e V⟨rfl,N⟩)))
  have y:Bw w R:=btr (C _) G ((C _)).size;have O:Bw w V:=btr (y.alloc y.size _) N (by have:=y.size;simp;omega);go_loopw [9,10] (λi _n wr=>∃q:Nat,q<=T.length/\i=J U q/\Hid (bp T=bp (T.drop q))/\Bw w wr) (λi _ _=>T.length-(intOf i).toNat)
  exact⟨0,gp _,rfl,rfl,O⟩;obtain⟨q,hq,rfl,t,j⟩:=hrel;by_cases hlt:q+4<=T.length;rotate_left
  .have P:¬((q:Int)+4<=(T.length:Int)):=by omega
   have L:Hid (bp (T.drop q)= -1):=ez _ (by rw[fc];omega);go_wp2_with fail;go_ret;exact⟨aI (by rw[B.o,t.o,L.o]),j⟩
  have P:(q:Int)+4<=(T.length:Int):=by omega
  have H:((T.take (q+4)).drop q)=(T.drop q).take 4:=by rw[List.take_drop]
  have r:Hid (bp (T.drop q)=if 0<=aM ((T.take (q+4)).drop q)then aM ((T.take (q+4)).drop q)else bp (T.drop (q+1))):=by unfold Hid;rw[eY T q (by omega),H]
  have F:Hid (∀W,fr prog 232 #[S ((T.take (q+4)).drop q)] W λe w'=>e=dk (J U (aM ((T.take (q+4)).drop q)))/\Bw W w'):=λW=>HN.o _ W (by rw[fc,fb];omega);clear H;generalize aM ((T.take (q+4)).drop q)=nf at*;by_cases hnf:0<=nf
  .rw[if_pos hnf]at r;go_wp2_with (go_at_call 232;(refine eg (F.o _) ?_;rintro e w7⟨rfl,z⟩))
   go_ret;exact⟨aI (by rw[B.o,t.o,r.o]),btr j z j.size⟩
  rw[if_neg hnf]at r;go_wp2_with (go_at_call 232;(refine eg (F.o _) ?_;rintro e w7⟨rfl,z⟩))
  go_roundw
  case rel=>exact⟨q+1,by omega,by go_num,by unfold Hid;rw[t.o,r.o],btr j z j.size⟩
  simp[intOf];omega
 by_cases h11:11<=I.length;rotate_left
 .have a9:¬((11:Int)<=(I.length:Int)):=by omega
  have a8:fo b= -1:=by rw[a1.o,if_neg (λh=>h11 h.2)]
  have B:Hid (br b=bp T):=by unfold Hid;rw[HY.o,a8,if_neg (by omega)]
  clear a8;go_enter func179,ntmps179
  go_wp2_with (first
   |(go_at_call 181;((with_reducible refine eg (H0.o _ A.o) ?_);rintro e g⟨⟨v,rfl,dd,rfl,m⟩,u⟩;obtain⟨ad,cp,rfl,_⟩:=m;have c:Hid (∀o,hZ (w.heap.size+1) (w.alloc (cs #[J dz k.toNat,J dz l.toNat,x] 62)) (g.alloc o)):=λo=>(u.mono (by omega)).alloc (by have:=u.size;omega) o;have C:Hid (∀o,Bw w (g.alloc o)):=λo=>A.o.trans ((c.o o).mono (by omega));have xa:∀o,(g.alloc o).cell? ⟨w.heap.size,0,Y⟩=X (J dz k.toNat):=λo=>(n.o _ (c.o o)).1;have xb:∀o,(g.alloc o).cell? ⟨w.heap.size,1,Y⟩=X (J dz l.toNat):=λo=>(n.o _ (c.o o)).2.1;have xc:∀o,(g.alloc o).cell? ⟨w.heap.size,2,Y⟩=X x:=λo=>(n.o _ (c.o o)).2.2))
   |(go_at_call 181;((with_reducible refine eg (H2.o _ (C.o _)) ?_);rintro e R⟨⟨v5,rfl,d5,rfl,m⟩,G⟩;obtain⟨a6,a7,rfl,_⟩:=id m;have M:=Z m;clear m))
   |(go_at_call 183;((with_reducible refine eg (H3.o _ _ _ _ _ (M.o.up2 (bm _ _) G.size)) ?_);rintro e V⟨rfl,N⟩)))
  have y:Bw w R:=btr (C _) G ((C _)).size;have O:Bw w V:=btr (y.alloc y.size _) N (by have:=y.size;simp;omega);go_loopw [9,10] (λi _n wr=>∃q:Nat,q<=T.length/\i=J U q/\Hid (bp T=bp (T.drop q))/\Bw w wr) (λi _ _=>T.length-(intOf i).toNat)
  exact⟨0,gp _,rfl,rfl,O⟩;obtain⟨q,hq,rfl,t,j⟩:=hrel;by_cases hlt:q+4<=T.length;rotate_left
  .have P:¬((q:Int)+4<=(T.length:Int)):=by omega
   have L:Hid (bp (T.drop q)= -1):=ez _ (by rw[fc];omega);go_wp2_with fail;go_ret;exact⟨aI (by rw[B.o,t.o,L.o]),j⟩
  have P:(q:Int)+4<=(T.length:Int):=by omega
  have H:((T.take (q+4)).drop q)=(T.drop q).take 4:=by rw[List.take_drop]
  have r:Hid (bp (T.drop q)=if 0<=aM ((T.take (q+4)).drop q)then aM ((T.take (q+4)).drop q)else bp (T.drop (q+1))):=by unfold Hid;rw[eY T q (by omega),H]
  have F:Hid (∀W,fr prog 232 #[S ((T.take (q+4)).drop q)] W λe w'=>e=dk (J U (aM ((T.take (q+4)).drop q)))/\Bw W w'):=λW=>HN.o _ W (by rw[fc,fb];omega);clear H;generalize aM ((T.take (q+4)).drop q)=nf at*;by_cases hnf:0<=nf
  .rw[if_pos hnf]at r;go_wp2_with (go_at_call 232;(refine eg (F.o _) ?_;rintro e w7⟨rfl,z⟩))
   go_ret;exact⟨aI (by rw[B.o,t.o,r.o]),btr j z j.size⟩
  rw[if_neg hnf]at r;go_wp2_with (go_at_call 232;(refine eg (F.o _) ?_;rintro e w7⟨rfl,z⟩))
  go_roundw
  case rel=>exact⟨q+1,by omega,by go_num,by unfold Hid;rw[t.o,r.o],btr j z j.size⟩
  simp[intOf];omega
 have a9:(11:Int)<=(I.length:Int):=by omega
 have a5:Hid (fo b=aM ((I.take 11).drop 7)):=by unfold Hid;rw[a1.o,if_pos ⟨rfl,h11⟩]
 have a4:Hid (∀W,fr prog 232 #[S ((I.take 11).drop 7)] W λe w'=>e=dk (J U (aM ((I.take 11).drop 7)))/\Bw W w'):=λW=>HN.o _ W (by rw[fc,fb];omega);generalize aM ((I.take 11).drop 7)=nf8 at*;by_cases hnf8:0<=nf8
 .have B:Hid (br b=nf8):=by unfold Hid;rw[HY.o,a5.o,if_pos hnf8]
  go_enter func179,ntmps179
  go_wp2_with (first
   |(go_at_call 181;((with_reducible refine eg (H0.o _ A.o) ?_);rintro e g⟨⟨v,rfl,dd,rfl,m⟩,u⟩;obtain⟨ad,cp,rfl,_⟩:=m;have c:Hid (∀o,hZ (w.heap.size+1) (w.alloc (cs #[J dz k.toNat,J dz l.toNat,x] 62)) (g.alloc o)):=λo=>(u.mono (by omega)).alloc (by have:=u.size;omega) o;have C:Hid (∀o,Bw w (g.alloc o)):=λo=>A.o.trans ((c.o o).mono (by omega));have xa:∀o,(g.alloc o).cell? ⟨w.heap.size,0,Y⟩=X (J dz k.toNat):=λo=>(n.o _ (c.o o)).1;have xb:∀o,(g.alloc o).cell? ⟨w.heap.size,1,Y⟩=X (J dz l.toNat):=λo=>(n.o _ (c.o o)).2.1;have xc:∀o,(g.alloc o).cell? ⟨w.heap.size,2,Y⟩=X x:=λo=>(n.o _ (c.o o)).2.2))
   |(go_at_call 232;((with_reducible refine eg (a4.o _) ?_);rintro e Q⟨rfl,a2⟩;have E:hZ (w.heap.size+1) (w.alloc (cs #[J dz k.toNat,J dz l.toNat,x] 62)) Q:=btr (c.o _) a2 (by have:=(c.o (cs #[] 0)).size;simp at this ⊢;omega);have K:Hid (Bw w Q):=A.o.trans (E.mono (by omega));have ac:=(n.o _ E).1;have al:=(n.o _ E).2.1;have ao:=(n.o _ E).2.2)))
  go_ret;exact⟨aI B.symm,K.o⟩
 have B:Hid (br b=bp T):=by unfold Hid;rw[HY.o,a5.o,if_neg hnf8]
 go_enter func179,ntmps179
 go_wp2_with (first
  |(go_at_call 181;((with_reducible refine eg (H0.o _ A.o) ?_);rintro e g⟨⟨v,rfl,dd,rfl,m⟩,u⟩;obtain⟨ad,cp,rfl,_⟩:=m;have c:Hid (∀o,hZ (w.heap.size+1) (w.alloc (cs #[J dz k.toNat,J dz l.toNat,x] 62)) (g.alloc o)):=λo=>(u.mono (by omega)).alloc (by have:=u.size;omega) o;have C:Hid (∀o,Bw w (g.alloc o)):=λo=>A.o.trans ((c.o o).mono (by omega));have xa:∀o,(g.alloc o).cell? ⟨w.heap.size,0,Y⟩=X (J dz k.toNat):=λo=>(n.o _ (c.o o)).1;have xb:∀o,(g.alloc o).cell? ⟨w.heap.size,1,Y⟩=X (J dz l.toNat):=λo=>(n.o _ (c.o o)).2.1;have xc:∀o,(g.alloc o).cell? ⟨w.heap.size,2,Y⟩=X x:=λo=>(n.o _ (c.o o)).2.2))
  |(go_at_call 232;((with_reducible refine eg (a4.o _) ?_);rintro e Q⟨rfl,a2⟩;have E:hZ (w.heap.size+1) (w.alloc (cs #[J dz k.toNat,J dz l.toNat,x] 62)) Q:=btr (c.o _) a2 (by have:=(c.o (cs #[] 0)).size;simp at this ⊢;omega);have K:Hid (Bw w Q):=A.o.trans (E.mono (by omega));have ac:=(n.o _ E).1;have al:=(n.o _ E).2.1;have ao:=(n.o _ E).2.2))
  |(go_at_call 181;((with_reducible refine eg (H2.o _ K.o) ?_);rintro e R⟨⟨v5,rfl,d5,rfl,m⟩,G⟩;obtain⟨a6,a7,rfl,_⟩:=id m;have M:=Z m;clear m))
  |(go_at_call 183;((with_reducible refine eg (H3.o _ _ _ _ _ (M.o.up2 (bm _ _) G.size)) ?_);rintro e V⟨rfl,N⟩)))
 have y:Bw w R:=btr K.o G (K.o).size;have O:Bw w V:=btr (y.alloc y.size _) N (by have:=y.size;simp;omega);go_loopw [9,10] (λi _n wr=>∃q:Nat,q<=T.length/\i=J U q/\Hid (bp T=bp (T.drop q))/\Bw w wr) (λi _ _=>T.length-(intOf i).toNat)
 case atStart=>exact⟨0,gp _,rfl,rfl,O⟩
 obtain⟨q,hq,rfl,t,j⟩:=hrel;by_cases hlt:q+4<=T.length;rotate_left
 .have P:¬((q:Int)+4<=(T.length:Int)):=by omega
  have L:Hid (bp (T.drop q)= -1):=ez _ (by rw[fc];omega);go_wp2_with fail;go_ret;exact⟨aI (by rw[B.o,t.o,L.o]),j⟩
 have P:(q:Int)+4<=(T.length:Int):=by omega
 have H:((T.take (q+4)).drop q)=(T.drop q).take 4:=by rw[List.take_drop]
 have r:Hid (bp (T.drop q)=if 0<=aM ((T.take (q+4)).drop q)then aM ((T.take (q+4)).drop q)else bp (T.drop (q+1))):=by unfold Hid;rw[eY T q (by omega),H]
 have F:Hid (∀W,fr prog 232 #[S ((T.take (q+4)).drop q)] W λe w'=>e=dk (J U (aM ((T.take (q+4)).drop q)))/\Bw W w'):=λW=>HN.o _ W (by rw[fc,fb];omega);clear H;generalize aM ((T.take (q+4)).drop q)=nf at*;by_cases hnf:0<=nf
 .rw[if_pos hnf]at r;go_wp2_with (go_at_call 232;(refine eg (F.o _) ?_;rintro e w7⟨rfl,z⟩))
  go_ret;exact⟨aI (by rw[B.o,t.o,r.o]),btr j z j.size⟩
 rw[if_neg hnf]at r;go_wp2_with (go_at_call 232;(refine eg (F.o _) ?_;rintro e w7⟨rfl,z⟩))
 go_roundw
 case rel=>exact⟨q+1,by omega,by go_num,by unfold Hid;rw[t.o,r.o],btr j z j.size⟩
 simp[intOf];omega
abbrev signsI:Bs:=[48,49,50,51,52,53,54,55,56,57,88,120,32,45]
theorem zx(c:Nat)(h:128<=c):(∃a y:UInt8,gQ (c:Int)=⟨#[a,y]⟩/\128<=y.toNat)∨(∃a b y:UInt8,gQ (c:Int)=⟨#[a,b,y]⟩/\128<=y.toNat)∨∃a b d y:UInt8,gQ (c:Int)=⟨#[a,b,d,y]⟩/\128<=y.toNat:=by
 have hn:∃n,(if Utf8.valid (c:Int)then(c:Int).toNat else Utf8.runeError)=n/\128<=n:=by
  refine⟨_,rfl,?_⟩;split
  .simpa using h
  decide
 obtain⟨n,f,g⟩:=hn;have e:∀k:Nat,128<=(e9 (128+k%64)).toNat:=λk=>by
  have:(e9 (128+k%64)).toNat=128+k%64:=by rw[UInt8.toNat_ofNat'];omega
  omega
 unfold gQ;rw[f];dsimp only;rw[if_neg (by omega)];split
 .exact .inl ⟨_,_,rfl,e n⟩
 split
 .exact .inr (.inl ⟨_,_,_,rfl,e n⟩)
 exact .inr (.inr ⟨_,_,_,_,rfl,e n⟩)
theorem pZ(y:UInt8)(h:128<=y.toNat)(l:Bs)(a:∀b∈l,b.toNat<128)(w:eQ):fr prog 246 #[S l,J dz y.toNat] w λe w'=>e=dk (J U (-1))/\w'=w:=by
 have:=strings_IndexByte ⟨l.toArray⟩ y.toNat w;refine this.mono ?_;rintro e w'⟨rfl,rfl⟩;refine⟨?_,rfl⟩;have c:(y.toNat:Int).toNat.toUInt8=y:=by simp
 rw[c];have:g7 l y= -1:=by
  clear this c;induction l with
  |nil=>rfl
  |cons b l ih=>
   have:=a b hl;simp only[g7];have f:(b==y)=false:=by
    cases hby:b==y
    .rfl
    have e:b=y:=by simpa using hby
    rw[e]at this;omega
   rw[f,ih (λd g=>a d (hf _ g))];rfl
 exact congrArg (λi=>Ending.returned (J U i)) this
theorem vQ(c:Nat)(i:c<=1114111)(a:¬(55296<=c/\c<=57343))(w:eQ):fr prog 312 #[J e5 c] w λe w'=>e=dk (dy true)/\w'=w:=by
 have d:(0:Int)<=c:=by omega
 by_cases h:c<55296
 .have b:(c:Int)<55296:=by omega
  clear a h;go_enter func312,ntmps312;go_wp2_with fail;go_ret;exact⟨rfl,rfl⟩
 have b:¬(c:Int)<55296:=by omega
 have f:(57343:Int)<c:=by omega
 have g:(c:Int)<=1114111:=by omega
 clear a h;go_enter func312,ntmps312;go_wp2_with fail;go_ret;exact⟨rfl,rfl⟩
theorem oX(c:Nat)(a:55296<=c/\c<=57343)(w:eQ):fr prog 312 #[J e5 c] w λe w'=>e=dk (dy false)/\w'=w:=by
 have b:(0:Int)<=c:=by omega
 have d:¬(c:Int)<55296:=by omega
 have f:¬(57343:Int)<c:=by omega
 clear a;go_enter func312,ntmps312;go_wp2_with fail;go_ret;exact⟨rfl,rfl⟩
theorem wV(c:Nat)(h:128<=c)(l:c<=1114111)(m:c≠65533)(w:eQ):fr prog 284 #[S signsI,J e5 c] w λe w'=>e=dk (J U (-1))/\Bw w w':=by
 have q:(0:Int)<=c:=by omega
 have r:¬(c:Int)<128:=by omega
 have s:¬((c:Int)=65533):=by omega
 by_cases hs:55296<=c/\c<=57343
 .have k:Hid (∀W,fr prog 312 #[J e5 c] W λe w'=>e=dk (dy false)/\w'=W):=λW=>oX c hs W;clear hs h m l;go_enter func284,ntmps284;go_wp2_with (go_at_call 312;(refine eg (k.o _) ?_;rintro e w1⟨rfl,rfl⟩))
  go_ret;exact⟨rfl,ex _ _⟩
 have k:Hid (∀W,fr prog 312 #[J e5 c] W λe w'=>e=dk (dy true)/\w'=W):=λW=>vQ c l hs W;have p:=zx c h;clear hs h m l;rcases p with⟨a,y,f,g⟩|⟨a,b,y,f,g⟩|⟨a,b,d,y,f,g⟩
 .have j:Hid (∀W,fr prog 246 #[S [50,51,52,53,54,55,56,57,88,120,32,45],J dz y.toNat] W λe w'=>e=dk (J U (-1))/\w'=W):=λW=>pZ y g _ (by decide) W;have n:¬((49:Int)=y.toNat):=by omega
  have i:Hid (gy (gQ (c:Int))=S [a,y]):=by unfold Hid;rw[f]
  clear g f;go_enter func284,ntmps284;go_upto_region 2 with(go_at_call 312;(refine eg (k.o _) ?_;rintro e w1⟨rfl,rfl⟩))
  go_step3
  go_upto_region 2 with fail;rw[i.o];go_wp2_with fail;refine gO 2 ?_;rw[fl];go_wp2_with fail;go_step3
  go_wp2_with fail;go_region;go_wp2_with fail;go_region_with (go_at_call 246;refine(j.o _).mono ?_;rintro e o⟨rfl,rfl⟩)
  all_goals(go_wp2_with fail;rw[gb];go_wp2_with fail;rw[gb];go_wp2_with fail;go_ret;exact⟨rfl,(ex _ _).drew.drew⟩)
 .have j:Hid (∀W,fr prog 246 #[S [51,52,53,54,55,56,57,88,120,32,45],J dz y.toNat] W λe w'=>e=dk (J U (-1))/\w'=W):=λW=>pZ y g _ (by decide) W;have n:¬((50:Int)=y.toNat):=by omega
  have i:Hid (gy (gQ (c:Int))=S [a,b,y]):=by unfold Hid;rw[f]
  clear g f;go_enter func284,ntmps284;go_upto_region 2 with(go_at_call 312;(refine eg (k.o _) ?_;rintro e w1⟨rfl,rfl⟩))
  go_step3
  go_upto_region 2 with fail;rw[i.o];go_wp2_with fail;refine gO 2 ?_;rw[fl];go_wp2_with fail;go_step3
  go_wp2_with fail;go_region;go_wp2_with fail;go_region_with (go_at_call 246;refine(j.o _).mono ?_;rintro e o⟨rfl,rfl⟩)
  all_goals(go_wp2_with fail;rw[gb];go_wp2_with fail;rw[gb];go_wp2_with fail;go_ret;exact⟨rfl,(ex _ _).drew.drew⟩)
 have j:Hid (∀W,fr prog 246 #[S [52,53,54,55,56,57,88,120,32,45],J dz y.toNat] W λe w'=>e=dk (J U (-1))/\w'=W):=λW=>pZ y g _ (by decide) W;have n:¬((51:Int)=y.toNat):=by omega
 have i:Hid (gy (gQ (c:Int))=S [a,b,d,y]):=by unfold Hid;rw[f]
 clear g f;go_enter func284,ntmps284;go_upto_region 2 with(go_at_call 312;(refine eg (k.o _) ?_;rintro e w1⟨rfl,rfl⟩))
 go_step3
 go_upto_region 2 with fail;rw[i.o];go_wp2_with fail;refine gO 2 ?_;rw[fl];go_wp2_with fail;go_step3
 go_wp2_with fail;go_region;go_wp2_with fail;go_region_with (go_at_call 246;refine(j.o _).mono ?_;rintro e o⟨rfl,rfl⟩)
 all_goals(go_wp2_with fail;rw[gb];go_wp2_with fail;rw[gb];go_wp2_with fail;go_ret;exact⟨rfl,(ex _ _).drew.drew⟩)
theorem nt(w:eQ):fr prog 284 #[S signsI,J e5 65533] w λe w'=>e=dk (J U (-1))/\Bw w w':=by
 have q:Hid (∀p<14,(fs ⟨signsI.toArray⟩ p).2=1/\(fs ⟨signsI.toArray⟩ p).1<128):=by unfold Hid;decide+kernel
 go_enter func284,ntmps284;go_wp2_with fail;have m:(w.alloc (.stringIter ⟨signsI.toArray⟩ 0)).heap[w.heap.size]?=X (.stringIter ⟨signsI.toArray⟩ 0):=es w _;have s:=Z m;have n:Hid (Bw w (w.alloc (.stringIter ⟨signsI.toArray⟩ 0))):=(ex _ w).alloc (em _) _;clear m;go_loopw [5,6] (λ_a _b wr=>Hid (Bw w wr)/\∃a:Nat,a<=14/\Hid (wr.heap[w.heap.size]?=X (.stringIter ⟨signsI.toArray⟩ a))) (λ_ _ wr=>14-wr.iterPos w.heap.size)
 exact⟨n,0,by omega,s⟩;obtain⟨g,a,x,c⟩:=hrel;have l:wr.iterPos w.heap.size=a:=by simp[hj,c.o]
 have r:=Z l;clear l;by_cases hp:a<14;rotate_left
 .have v:¬a<(⟨signsI.toArray⟩:ByteArray).size:=hp;have j:∀b,(hJ (dx (X ⟨w.heap.size,0,Y⟩)) true b).run prog wr=_:=λb=>hX wr w.heap.size ⟨signsI.toArray⟩ a b c.o v;go_wp2_with fail;(try rw[gb])
  go_ret;exact⟨rfl,g.o⟩
 obtain⟨i,t⟩:=q a hp;have j:∀b,(hJ (dx (X ⟨w.heap.size,0,Y⟩)) true b).run prog wr=_:=λb=>hY wr w.heap.size ⟨signsI.toArray⟩ a b c.o hp;have f:=Lib.iterAt_heap wr w.heap.size ⟨signsI.toArray⟩ a (a+(fs ⟨signsI.toArray⟩ a).2) c.o;have d:=Lib.below_iterAt g.o (k:=w.heap.size) (em _) ⟨signsI.toArray⟩ (a+(fs ⟨signsI.toArray⟩ a).2);rw[i]at j f d;generalize(wr.iterAt w.heap.size ⟨signsI.toArray⟩ (a+1))=W1 at*;generalize(fs ⟨signsI.toArray⟩ a).1=z at*;have y:¬((z:Int)=65533):=by omega
 have h:=Z f;have o:=Z d;clear f d i t;go_wp2_with fail;go_roundw
 case rel=>exact⟨o,a+1,by omega,h⟩
 have u:W1.iterPos w.heap.size=a+1:=by simp[hj,h.o]
 rw[u,r.o];omega
def partB(b:UInt8):Bool:=signsI.contains b
theorem AE:∀b:UInt8,partB b=true->b.toNat<128:=by
 intro b h;have:b∈signsI:=by simpa[partB]using h
 simp[signsI]at this;rcases this with rfl|rfl|rfl|rfl|rfl|rfl|rfl|rfl|rfl|rfl|rfl|rfl|rfl|rfl<;>decide
theorem sq(b:UInt8)(t:List UInt8)(h:128<=b.toNat):128<=(Lib.decodeL (b::t)).1:=by
 rw[Lib.decodeL_N];unfold Lib.decodeN;rw[hQ,if_neg (by omega)];split
 .split
  .assumption
  decide
 split
 .split
  .rename_i a c;omega
  decide
 split
 .split
  .rename_i a c;omega
  decide
 decide
def jy(c:Nat):Bool:=decide (c<128)&&partB (e9 c)
theorem wS(c:Nat)(b:c<=1114111)(w:eQ):fr prog 234 #[J e5 c] w λe w'=>e=dk (dy (!jy c))/\Bw w w':=by
 have f:Hid (fr prog 235 #[S signsI,J e5 c] w λe w'=>e=dk (dy (jy c))/\Bw w w'):=by
  by_cases h:c<128
  .refine(strings_ContainsRune_ascii ⟨signsI.toArray⟩ c w (by omega) (by omega)).mono ?_;rintro e w'⟨rfl,rfl⟩;refine⟨am ?_,ex _ _⟩;unfold jy partB;rw[decide_eq_true h,Bool.true_and,Lib.contains_iff_indexByte];have:(c:Int).toNat.toUInt8=e9 c:=by simp
   rw[this]
  have g:Hid (fr prog 284 #[S signsI,J e5 c] w λe w'=>e=dk (J U (-1))/\Bw w w'):=by
   by_cases h2:c=65533
   .subst h2;exact nt w
   exact wV c (by omega) b h2 w
  have d:jy c=false:=by unfold jy;rw[decide_eq_false h];rfl
  rw[d];clear h d;go_enter func235,ntmps235;go_wp2_with (go_at_call 284;(refine eg g.o ?_;rintro e w1⟨rfl,a⟩))
  go_ret;exact⟨rfl,a⟩
 generalize jy c=p at*;clear b;go_enter func234,ntmps234;go_wp2_with (go_at_call 235;(refine eg f.o ?_;rintro e w1⟨rfl,a⟩))
 go_ret;exact⟨rfl,a⟩
def partN(s:Bs):Nat:=(s.takeWhile partB).length
theorem yG(s:Bs):partN s<=s.length:=(List.takeWhile_prefix _).length_le
theorem yH(s:Bs):∀k,k<s.length->(∀j(h:j<s.length),j<k->partB s[j]=true)->(partB (s.getD k 0)=false->partN s=k)/\(partB (s.getD k 0)=true->k<partN s):=by
 induction s with
 |nil=>intro k a;simp at a
 |cons b s ih=>
  intro k a d;cases k with
  |zero=>
   simp only[hQ];refine⟨λh=>?_,λh=>?_⟩
   .unfold partN;rw[gn,h];rfl
   unfold partN;rw[gn,h];simp
  |succ k=>
   have c:=d 0 (by simp) (by omega);simp only[List.getElem_cons_zero]at c;have:=ih k (by simpa using a) (λj h f=>by have:=d (j+1) (by simpa using h) (by omega);simpa using this);have e:partN (b::s)=partN s+1:=by unfold partN;rw[gn,c];simp
   rw[e,List.getD_cons_succ];exact⟨λh=>by rw[this.1 h],λh=>by have:=this.2 h;omega⟩
theorem wE(s:Bs)(h:∀j(h:j<s.length),partB s[j]=true):partN s=s.length:=by
 have:∀l:Bs,(∀b∈l,partB b=true)->l.takeWhile partB=l:=by
  intro l;induction l with
  |nil=>intro _;rfl
  |cons b l ih=> intro a;rw[gn,a b hl,if_pos rfl,ih λc f=>a c (hf _ f)]
 unfold partN;rw[this s (λb d=>by obtain⟨j,g,e⟩:=List.getElem_of_mem d;rw[<- e];exact h j g)]
theorem us(s:Bs)(w:eQ)(M:s.length<=1000000000):fr prog 283 #[S s,.func (.func 234) #[] #[],dy true] w λe w'=>e=dk (J U (if partN s=s.length then -1 else(partN s:Int)))/\Bw w w':=by
 have a8:=Z M;obtain⟨R,r⟩:=Qe ((if partN s=s.length then(-1:Int)else(partN s:Int)));rw[r];have y:=Z r;clear M r;go_enter func283,ntmps283;go_wp2_with fail;have N:(w.alloc (.stringIter ⟨s.toArray⟩ 0)).heap[w.heap.size]?=X (.stringIter ⟨s.toArray⟩ 0):=es w _;have a1:=Z N;have P:Hid (Bw w (w.alloc (.stringIter ⟨s.toArray⟩ 0))):=(ex _ w).alloc (em _) _;clear N;go_loopw [7,8] (λ_a _b wr=>Hid (Bw w wr)/\∃a:Nat,a<=s.length/\Hid (wr.heap[w.heap.size]?=X (.stringIter ⟨s.toArray⟩ a))/\Hid (∀j(h:j<s.length),j<a->partB s[j]=true)) (λ_ _ wr=>s.length-wr.iterPos w.heap.size)
 exact⟨P,0,by omega,a1,λj h t=>by omega⟩;obtain⟨u,a,a9,i,o⟩:=hrel;have L:wr.iterPos w.heap.size=a:=by simp[hj,i.o]
 have V:=Z L;clear L;by_cases hp:a<s.length;rotate_left
 .have a7:¬a<(⟨s.toArray⟩:ByteArray).size:=hp;have a5:∀b,(hJ (dx (X ⟨w.heap.size,0,Y⟩)) true b).run prog wr=_:=λb=>hX wr w.heap.size ⟨s.toArray⟩ a b i.o a7;have p:Hid (R= -1):=by unfold Hid;rw[<- y.o,if_pos (wE s (λj h=>o.o j h (by omega)))]
  go_wp2_with fail;go_ret;exact⟨(by rw[p.o];rfl),u.o⟩
 have a6:a<(⟨s.toArray⟩:ByteArray).size:=hp;have a5:∀b,(hJ (dx (X ⟨w.heap.size,0,Y⟩)) true b).run prog wr=_:=λb=>hY wr w.heap.size ⟨s.toArray⟩ a b i.o a6;have I:=Lib.iterAt_heap wr w.heap.size ⟨s.toArray⟩ a (a+(fs ⟨s.toArray⟩ a).2) i.o;have E:=Lib.below_iterAt u.o (k:=w.heap.size) (em _) ⟨s.toArray⟩ (a+(fs ⟨s.toArray⟩ a).2);have G:fs ⟨s.toArray⟩ a=Lib.decodeL (s[a]::s.drop (a+1)):=by rw[ea,g2 hp]
 have F:(fs ⟨s.toArray⟩ a).1<=1114111:=by rw[ea];exact Lib.decodeL_rune _
 have q:=yH s a hp o.o;have H:s.getD a 0=s[a]:=by simp[List.getD_eq_getElem?_getD,hp]
 rw[H]at q;have a4:(jy (fs ⟨s.toArray⟩ a).1=partB s[a])/\(partB s[a]=true->(fs ⟨s.toArray⟩ a).2=1):=by
  rw[G];by_cases h:s[a].toNat<128
  .rw[Lib.decodeL_ascii _ _ h];refine⟨?_,λ_=>rfl⟩;unfold jy;rw[decide_eq_true h,Bool.true_and];simp
  have A:=sq s[a] (s.drop (a+1)) (by omega);have d:partB s[a]=false:=by
   cases l:partB s[a]
   .rfl
   exact absurd (AE _ l) h
  refine⟨?_,λl=>by rw[d]at l;cases l⟩;rw[d];unfold jy;rw[decide_eq_false (by omega)];rfl
 obtain⟨B,C⟩:=a4;have D:∀j(h:j<s.length),j<a+1->partB s[a]=true->partB s[j]=true:=λj h t A=>by
  rcases Nat.lt_or_ge j a with d|d
  .exact o j h d
  have:j=a:=by omega
  subst this;exact A
 have W:=Z D;have O:=Z q;have n:=Z (wS _ F);rw[B]at n;generalize partB s[a]=pb at*;generalize hW1:(wr.iterAt w.heap.size ⟨s.toArray⟩ (a+(fs ⟨s.toArray⟩ a).2))=W1 at*;generalize hz:(fs ⟨s.toArray⟩ a).2=z at*;generalize(fs ⟨s.toArray⟩ a).1=c at*;have a3:=Z C;have T:=Z I;have g:=Z E;clear I E B C D q G F H hW1 hz;cases pb
 .have x:Hid (partN s=a):=O.1 rfl;have K:¬(partN s=s.length):=by rw[x.o];omega
  have p:Hid (R=a):=by unfold Hid;rw[<- y.o,if_neg K,x.o]
  clear K;go_wp2_with (go_at_call 234;(refine eg (n.o _) ?_;rintro e m⟨rfl,f⟩))
  go_ret;exact⟨(by rw[p.o];rfl),btr g.o f g.o.size⟩
 have a2:Hid (z=1):=a3 rfl;have a0:Hid (∀j(h:j<s.length),j<a+1->partB s[j]=true):=λj h t=>W j h t rfl;go_wp2_with (go_at_call 234;(refine eg (n.o _) ?_;rintro e m⟨rfl,f⟩))
 have Q:Hid (Bw w m):=btr g.o f g.size;have v:Hid (m.heap[w.heap.size]?=X (.stringIter ⟨s.toArray⟩ (a+1))):=by have:=T.o;rw[a2.o]at this;exact(f.block _ (Array.getElem?_eq_some_iff.1 this).1).trans this
 clear f;go_roundw
 case rel=>exact⟨Q,a+1,by omega,v,a0⟩
 have e1:m.iterPos w.heap.size=a+1:=by simp[hj,v.o]
 rw[e1,V.o];omega
theorem ut(s:Bs)(w:eQ)(c:s.length<=1000000000):fr prog 233 #[S s,.func (.func 234) #[] #[]] w λe w'=>e=dk (J U (if partN s=s.length then -1 else(partN s:Int)))/\Bw w w':=by
 have a:=Z (us s w c);generalize(if partN s=s.length then(-1:Int)else(partN s:Int))=r at*;go_enter func233,ntmps233;go_wp2_with (go_at_call 283;(refine eg a.o ?_;rintro e w1⟨rfl,b⟩))
 go_ret;exact⟨rfl,b⟩
theorem wU(s:Bs):isbnGo s=(s.takeWhile partB).filter λb=> !(decide (b=32)||decide (b=45)):=by
 induction s with
 |nil=>rfl
 |cons b s ih=>
  unfold isbnGo;have c:partB b=(digitB b||xB b||decide (b=32∨b=45)):=by
   have:∀n<256,partB (e9 n)=(digitB (e9 n)||xB (e9 n)||decide (e9 n=32∨e9 n=45)):=by decide+kernel
   have:=this b.toNat b.toNat_lt;rwa[hV]at this
  have hn:(digitB b||xB b)=true->(!(decide (b=32)||decide (b=45)))=true:=by
   have:∀n<256,(digitB (e9 n)||xB (e9 n))=true->(!(decide (e9 n=32)||decide (e9 n=45)))=true:=by decide+kernel
   have:=this b.toNat b.toNat_lt;rwa[hV]at this
  rw[gn,c];by_cases h1:(digitB b||xB b)=true
  .rw[if_pos h1,h1,Bool.true_or,if_pos rfl,ft,hn h1,if_pos rfl,ih]
  rw[if_neg h1];have a:(digitB b||xB b)=false:=by simpa using h1
  rw[a,Bool.false_or];by_cases h2:b=32∨b=45
  .rw[if_pos h2,decide_eq_true h2,if_pos rfl,ft,ih];have:(!(decide (b=32)||decide (b=45)))=false:=by rcases h2 with rfl|rfl<;>rfl
   rw[this];rfl
  rw[if_neg h2,decide_eq_false h2];rfl
theorem kQ(w:eQ):(callFunc 352 #[]).run prog w=.ok (.value (.tuple #[])) w:=run_call_mark0 func352 (by kernel_rfl) (by kernel_rfl) (by kernel_rfl) .disable (by kernel_rfl) w
theorem mG(w:eQ):(callFunc 354 #[]).run prog w=.ok (.value (.tuple #[])) w:=run_call_mark0 func354 (by kernel_rfl) (by kernel_rfl) (by kernel_rfl) .enable (by kernel_rfl) w
theorem sW(a:Addr)(w:eQ):(callFunc 355 #[dx (X a)]).run prog w=.ok (.value (.tuple #[])) w:=run_call_marked func355 (by kernel_rfl) (by kernel_rfl) (by kernel_rfl) .acquire (by kernel_rfl) a w
theorem rB(a:Addr)(w:eQ):(callFunc 357 #[dx (X a)]).run prog w=.ok (.value (.tuple #[])) w:=run_call_marked func357 (by kernel_rfl) (by kernel_rfl) (by kernel_rfl) .releaseMerge (by kernel_rfl) a w
theorem vZ(a:Addr)(x:fx)(u:FrameMode)(w:eQ)(f:w.cell? a=X x)(h:w.frozen? a=false):
 CallsD prog 337 #[dx (X a),dy true] u w λe d w'=>d=u/\(e=dk (.tuple #[])/\w'=w.drew.setCell a (J .u32 1)):=by
 have b:w.drew.cell? a=X x:=by go_simp
 have c:w.drew.frozen? a=false:=by go_simp
 have g:=run_call_store (P:=prog) func347 (by kernel_rfl) (by kernel_rfl) (by kernel_rfl) (by kernel_rfl) (k:=.u32) (y:=1) b c;go_enter_d func337,ntmps337
 go_wp2;go_region_calls
 all_goals(go_end0;exact⟨rfl,rfl⟩)
theorem tn(a:Addr)(u:FrameMode)(w:eQ)(b:w.cell? a=X (J e5 1))(c:w.frozen? a=false):
 CallsD prog 336 #[dx (X a)] u w λe d w'=>d=u/\(e=dk (.tuple #[])/\w'=w.setCell a (J e5 0)):=by
 have h:=kQ;have i:=mG;have j:=rB;have f:=run_call_add (P:=prog) func358 (by kernel_rfl) (by kernel_rfl) (by kernel_rfl) e5 (by kernel_rfl) (y:= -1) (s:=0) b c (by simp[go_sem];rfl);have g:=run_convert_to_unsafe (P:=prog) (src:=427) (dst:=282) underlying427 underlying282 (by kernel_rfl) b;go_enter_d func336,ntmps336
 go_wp2;go_end0
 go_wp2;all_goals(go_end0;exact⟨rfl,rfl⟩)
theorem yV(a:Addr)(w:eQ)(b:w.cell? a=X (J e5 0))(d:w.frozen? a=false):
 fr prog 335 #[dx (X a)] w λe w'=>e=dk (.tuple #[])/\w'=w.setCell a (J e5 1):=by
 have i:=kQ;have j:=mG;have f:=sW;have g:=run_call_cas_hit (P:=prog) func353 (by kernel_rfl) (by kernel_rfl) (by kernel_rfl) e5 (by kernel_rfl) (y:=1) b d;have c:(w.setCell a (J e5 1)).cell? a=X (J e5 1):=World.cell?_setCell_same w a _ b;have h:=run_convert_to_unsafe (P:=prog) (src:=427) (dst:=282) underlying427 underlying282 (by kernel_rfl) c;go_enter func335,ntmps335;go_wp2;first|go_end0|(simp only[Exit.inBlock,Exit.then];refine gP (results_none rfl _ _ _) rfl ?_)|refine gP (results_none rfl _ _ _) rfl ?_
 go_wp2;all_goals(go_end0;exact⟨rfl,rfl⟩)
theorem rJ(a:Addr)(d:Int)(b:Bool)(f:(d !=0)=b)(w:eQ)(c:w.cell? a=X (J .u32 d)):fr prog 320 #[dx (X a)] w λe w'=>e=dk (dy b)/\w'=w:=by
 have g:=run_call_load (P:=prog) func334 (by kernel_rfl) (by kernel_rfl) (by kernel_rfl) .u32 (by kernel_rfl) c;subst f;go_enter func320,ntmps320;go_wp2;go_ret;exact⟨rfl,rfl⟩
theorem xt(s:Bs)(c:UInt8)(w:eQ):fr prog 396 #[S s,S [c]] w λe w'=>e=dk (J U (s.count c))/\w'=w:=by
 have a:(c.toNat:Int).toNat.toUInt8=c:=by simp
 have b:∀W,(callFunc 398 #[S s,J dz c.toNat]).run prog W=.ok (.value (J U (s.count c))) W:=λW=>by rw[run_callFunc_extern func398 (by kernel_rfl) (by kernel_rfl) (by kernel_rfl) (e:=Extern.BytealgCount.count) (by kernel_rfl),Lib.run_countString,a];rfl
 go_enter func396,ntmps396;go_wp2;go_ret;exact⟨rfl,rfl⟩
def kG(R:Nat)(v x:fx)(a:eQ->Prop)(S:eQ->eQ->Prop):Prop:=
 ∀w:eQ,a w->w.heap[R]?=X (cs #[J .u32 0,J e5 1,J .u32 0,.nilIface,v] 355 (0,0))->fr prog 289 #[dx (X ⟨R,0,Y⟩)] w λe w'=>e=dk (.tuple #[])/\w'.heap[R]?=X (cs #[J .u32 0,J e5 1,J .u32 0,x,ds Y 0 0] 355 (0,0))/\S w w'
theorem yq(R:Nat)(v x:fx)(i:eQ->Prop)(S:eQ->eQ->Prop)(j:kG R v x i S)(w:eQ)(k:∀w',az R w w'->i w')(h:w.heap[R]?=X (cs #[J .u32 0,J e5 0,J .u32 0,.nilIface,v] 355 (0,0))):
 fr prog 321 #[dx (X ⟨R,0,Y⟩),.func (.func 289) #[dx (X ⟨R,0,Y⟩)] #[]] w λe w'=>e=dk (.tuple #[])/\∃w1 l:eQ,az R w w1/\S w1 l/\az R l w'/\w'.heap[R]?=X (cs #[J .u32 1,J e5 0,J .u32 0,x,ds Y 0 0] 355 (0,0)):=by
 have c:(w.setCell ⟨R,1,Y⟩ (J e5 1)).heap[R]?=X (cs #[J .u32 0,J e5 1,J .u32 0,.nilIface,v] 355 (0,0)):=aq h 1 (J e5 1);have d:az R w (w.setCell ⟨R,1,Y⟩ (J e5 1)):=(az.refl R w).setCell 1 _;have o:=Z (yV ⟨R,1,Y⟩ w ((aa h 1).trans rfl) (ab h 1));have m:=Z (j _ (k _ d) c);have p:=Z (rJ ⟨R,0,Y⟩ 0 false rfl _ ((aa c 0).trans rfl));have z:∀(x:Bool)(w:eQ),(Op.unary .not (dy x)).run prog w=.ok (dy (!x)) w:=λ_ _=>rfl;have n:=Z d;clear c d h j k;generalize w.setCell ⟨R,1,Y⟩ (J e5 1)=W1 at*;go_enter_defers func321,ntmps321
 go_wp2_with (first|(go_at_call 335;refine eg o.o ?_;rintro e w'⟨rfl,rfl⟩)|(go_at_call 320;refine eg p.o ?_;rintro e w'⟨rfl,rfl⟩)|(go_at_call 289;refine eg m.o ?_;rintro e a⟨rfl,b,s⟩))
 have y:=Z b;refine leaves_cons (f:=337) (args:= #[dx (X ⟨R,0,Y⟩),dy true]) (by simp) (by simp[go_sem]) ?_;refine(vZ ⟨R,0,Y⟩ (J .u32 0) .returning _ ((aa b 0).trans rfl) (ab b 0)).mono ?_;rintro e t u⟨rfl,rfl,rfl⟩;have g:(a.drew.setCell ⟨R,0,Y⟩ (J .u32 1)).heap[R]?=X (cs #[J .u32 1,J e5 1,J .u32 0,x,ds Y 0 0] 355 (0,0)):=aq (w:=a.drew) b 0 (J .u32 1);refine leaves_cons (f:=336) (args:= #[dx (X ⟨R,1,Y⟩)]) (by simp[settle]) (by simp[go_sem]) ?_;refine(tn ⟨R,1,Y⟩ _ _ ((aa g 1).trans rfl) (ab g 1)).mono ?_;rintro e t u⟨rfl,rfl,rfl⟩;have r:=aq g 1 (J e5 0);have q:az R a ((a.drew.setCell ⟨R,0,Y⟩ (J .u32 1)).setCell ⟨R,1,Y⟩ (J e5 0)):=(((az.refl R a).drew).setCell 0 _).setCell 1 _;simp[Leaves,settle,results,Tryz.results321];exact⟨_,n.o,_,s,q,r⟩
theorem Cx(R:Nat)(v x:fx)(a:eQ->Prop)(S:eQ->eQ->Prop)(b:kG R v x a S)(w:eQ)(c:∀w',az R w w'->a w')(h:w.heap[R]?=X (cs #[J .u32 0,J e5 0,J .u32 0,.nilIface,v] 355 (0,0))):
 fr prog 288 #[dx (X ⟨R,0,Y⟩),.func (.func 289) #[dx (X ⟨R,0,Y⟩)] #[]] w λe w'=>e=dk (.tuple #[])/\∃w1 d:eQ,az R w w1/\S w1 d/\az R d w'/\w'.heap[R]?=X (cs #[J .u32 1,J e5 0,J .u32 0,x,ds Y 0 0] 355 (0,0)):=by
 have g:=Z (rJ ⟨R,0,Y⟩ 0 false rfl _ ((aa h 0).trans rfl));have f:=Z (yq R v x a S b w c h);have k:∀(x:Bool)(w:eQ),(Op.unary .not (dy x)).run prog w=.ok (dy (!x)) w:=λ_ _=>rfl;clear h b c;go_enter func288,ntmps288;go_wp2_with (first|(go_at_call 320;refine eg g.o ?_;rintro e w'⟨rfl,rfl⟩)|(go_at_call 321;refine eg f.o ?_;rintro e j⟨rfl,i⟩))
 go_end0
 exact⟨rfl,i⟩
def bigC(v:fx):Array fx:=Array.replicate 256 (ds Y 0 0)++ #[v]
theorem eb(v:fx):(bigC v).size=257:=by simp[bigC]
theorem kD(v:fx)(k:Nat)(a:k<256):(bigC v)[k]?=X (ds Y 0 0):=by
 unfold bigC;rw[hH (by simpa using a)];simp[a]
theorem lG(v:fx):(bigC v)[256]?=X v:=by
 unfold bigC;rw[Array.getElem?_append_right (by simp)];simp
theorem vI(v u:fx):(bigC v).setIfInBounds 256 u=bigC u:=by
 apply Array.ext_getElem?;intro i;rw[Array.getElem?_setIfInBounds,eb];by_cases h:256=i
 .subst h;simp[lG]
 rw[if_neg h];by_cases h2:i<256
 .rw[kD _ _ h2,kD _ _ h2]
 rw[hK (by rw[eb];omega),hK (by rw[eb];omega)]
theorem kC{w:eQ}{g:Nat}{v:fx}(h:w.heap[g]?=X (cs (bigC v) 403 (0,0))):w.cell? ⟨g,256,Y⟩=X v/\w.cell? ⟨g,45,Y⟩=X (ds Y 0 0)/\w.cell? ⟨g,32,Y⟩=X (ds Y 0 0):=
 ⟨(aa h 256).trans (lG v),(aa h 45).trans (kD v 45 (by decide)),(aa h 32).trans (kD v 32 (by decide))⟩
def gF(v e:fx):Array fx:=(bigC v).setIfInBounds 45 e
theorem oP(v e:fx):(gF v e).size=257:=by unfold gF;rw[Array.size_setIfInBounds,eb]
theorem zV(v e u:fx):(gF v e).setIfInBounds 256 u=gF u e:=by
 unfold gF;rw[<- vI v u,Array.setIfInBounds_comm _ _ (by decide)]
theorem jh{w:eQ}{g:Nat}{v e:fx}(h:w.heap[g]?=X (cs (gF v e) 403 (0,0))):w.cell? ⟨g,256,Y⟩=X v/\w.cell? ⟨g,32,Y⟩=X (ds Y 0 0):=by
 refine⟨(aa h 256).trans ?_,(aa h 32).trans ?_⟩
 .unfold gF;rw[e7 (by decide)];exact lG v
 unfold gF;rw[e7 (by decide)];exact kD v 32 (by decide)
def m9(lo:Nat)(W:eQ)(g:Nat):Prop:=∃(a:Option Addr)(c b1 k1 b2 k2:Nat),W.heap[g]?=X (cs ((gF (ds a 2 c) (ds (X ⟨b1,0,Y⟩) 0 k1)).setIfInBounds 32 (ds (X ⟨b2,0,Y⟩) 0 k2)) 403 (0,0))/\W.ownsRow lo 9 1 (ds a 2 c) 2 [S [45],S [32]]
theorem xP:Tryz.zeroCells403=bigC (ds Y 0 0):=by kernel_rfl
theorem BH(v:fx):Tryz.zeroCells403.toList.set 256 v=(bigC v).toList:=by kernel_rfl
theorem vY(g:Nat)(a:Option Addr)(n k:Nat)(b:Array fx)(w:eQ)(h:w.heap[g]?=X (cs b 403 (0,0)))(d:b.size=257):
 ∃w',(storeCells ⟨g,0,Y⟩ (Tryz.zeroCells403.toList.set 256 (ds a n k))).run prog w=.ok () w'/\w'.heap[g]?=X (cs (bigC (ds a n k)) 403 (0,0))/\az g w w':=by
 have f:(bigC (ds a n k)).toList.length=257:=by rw[hP,eb]
 have j:∀v∈(bigC (ds a n k)).toList,v.oneCell'=true:=by intro v i;simp only[bigC,Array.toList_append,Array.toList_replicate,List.mem_append,List.mem_replicate,List.mem_singleton]at i;rcases i with⟨_,rfl⟩|rfl<;>rfl
 have c:=run_storeCells_at (P:=prog) g 0 403 (bigC (ds a n k)).toList 0 b w h (by rw[f,d];omega) j;rw[f]at c;have e:(b.toList.take (0+0)++(bigC (ds a n k)).toList++b.toList.drop (0+0+257)).toArray=bigC (ds a n k):=by
  have:b.toList.drop (0+0+257)=[]:=by apply List.drop_eq_nil_of_le;rw[hP,d];omega
  rw[this];simp
 rw[e]at c;rw[BH];exact⟨w.setRow g (bigC (ds a n k)),c,setRow_heap w g b _ 403 (0,0) h,setRow_os _ _ _,setRow_tape _ _ _,setRow_output _ _ _,setRow_size _ _ _,λk l=>setRow_other w g k _ l⟩
theorem zw(w:eQ):(binOp .eql 76 (ds Y 0 0) (ds Y 0 0)).run prog w=.ok (dy true) w:=by kernel_rfl
theorem rG(w:eQ):(binOp .neq 76 (ds Y 0 0) (ds Y 0 0)).run prog w=.ok (dy false) w:=by kernel_rfl
theorem ol(g n k:Nat)(w:eQ):(binOp .neq 76 (ds (X ⟨g,0,Y⟩) n k) (ds Y 0 0)).run prog w=.ok (dy true) w:=by kernel_rfl
theorem mL(W:eQ):∃(k:Nat)(W':eQ),(convert 9 76 (S [])).run prog W=.ok (ds (X ⟨W.heap.size,0,Y⟩) 0 k) W'/\Bw W W':=by
 refine⟨_,_,Lib.run_convert_string_bytes W 9 76 5 ⟨#[]⟩ underlying9 underlying76 underlying5,rfl,rfl,rfl,?_,λk a=>Lib.bytesWorld_at_old _ _ _ _ a⟩;rw[Lib.bytesWorld_size];omega
def onC(a:Array fx):Array fx:= #[S [32],S [],S [45],S []]++a
theorem iE(a:Array fx):(onC a)[0]?=X (S [32])/\(onC a)[1]?=X (S [])/\(onC a)[2]?=X (S [45])/\(onC a)[3]?=X (S []):=by
 unfold onC;refine⟨?_,?_,?_,?_⟩<;>(rw[hH (by simp)];rfl)
theorem AN(w:eQ):(Instr.makeSlice 81 (J U 0) (J U 2)).run prog w=.ok (ds (X ⟨w.heap.size,0,Y⟩) 0 2) (w.alloc (cs #[S [],S []] 9)):=by kernel_rfl
theorem xG(R on kk:Nat)(d:Array fx)(x y z q:fx)(w:eQ)(hR:w.heap[R]?=X (cs #[x,y,z,q,ds (X ⟨on,0,Y⟩) 4 kk] 355 (0,0)))(t:w.heap[on]?=X (cs (onC d) 9 (0,0))):
 fr prog 322 #[dx (X ⟨R,0,Y⟩)] w λe w'=>e=dk (.iface 404 (dx (X ⟨w.heap.size+1,0,Y⟩)))/\Bw w w'/\m9 w.heap.size w' (w.heap.size+1)/\w.heap.size+1<w'.heap.size:=by
 have r4:w.cell? ⟨R,4,Y⟩=X (ds (X ⟨on,0,Y⟩) 4 kk):=(aa hR 4).trans rfl;have n0:w.cell? ⟨on,0,Y⟩=X (S [32]):=(aa t 0).trans (iE d).1;have n1:w.cell? ⟨on,1,Y⟩=X (S []):=(aa t 1).trans (iE d).2.1;have n2:w.cell? ⟨on,2,Y⟩=X (S [45]):=(aa t 2).trans (iE d).2.2.1;have n3:w.cell? ⟨on,3,Y⟩=X (S []):=(aa t 3).trans (iE d).2.2.2;have HR:=Z hR;have HO:=Z t;clear hR t;go_enter func322,ntmps322;go_wp2_with fail;refine gO 3 ?_;rw[fl];go_wp2_with fail;rw[fl];go_wp2_with fail;rw[fl];go_upto_region 26 with fail;have b9:=AN w;obtain⟨w1,F⟩:=Qe (w.alloc (cs #[S [],S []] 9));have V:w1.heap.size=w.heap.size+1:=by rw[<- F];simp
 have b6:w1.heap[w.heap.size]?=X (cs #[S [],S []] 9 (0,0)):=by rw[<- F];exact es w _
 have b7:Bw w w1:=by rw[<- F];exact(ex _ w).alloc (em _) _
 rw[F]at b9;obtain⟨l,T⟩:=Qe (w1.alloc (cs Tryz.zeroCells403 403));have b5:l.heap[w1.heap.size]?=X (cs Tryz.zeroCells403 403 (0,0)):=by rw[<- T];exact es w1 _
 have ad:Bw w1 l:=by rw[<- T];exact(ex _ w1).alloc (em _) _
 obtain⟨a,bc,a8,bb⟩:=vY w1.heap.size (X ⟨w.heap.size,0,Y⟩) 0 2 _ l b5 (by rw[xP];exact eb _);rw[V]at bc a8;have c9:Hid (Bw w l):=b7.trans (ad.mono (by omega));have c7:Hid (l.heap[w.heap.size]?=X (cs #[S [],S []] 9 (0,0))):=(ad.block _ (by omega)).trans b6;have a3:Hid (az (w.heap.size+1) l a):=by rw[<- V];exact bb
 have I:=Z a8;have cc:Hid (l.heap.size=w.heap.size+2):=by unfold Hid;rw[<- T];simp[V]
 clear b5 ad a8 bb b6 b7;go_wp2_with fail;have al:Bw w a:=c9.o.trans (a3.o.below (by omega));have aS:on<w.heap.size:=ae HO.o;have u:a.heap[on]?=X (cs (onC d) 9 (0,0)):=(al.block _ aS).trans HO.o;have v:a.heap[w.heap.size]?=X (cs #[S [],S []] 9 (0,0)):=(a3.o.block _ (by omega)).trans c7.o;obtain⟨cd,cg,_⟩:=kC I.o;have cn:=ab I.o 45;have cm:=ab I.o 256;have m0:a.cell? ⟨on,0,Y⟩=X (S [32]):=(aa u 0).trans (iE d).1;have m1:a.cell? ⟨on,1,Y⟩=X (S []):=(aa u 1).trans (iE d).2.1;have m2:a.cell? ⟨on,2,Y⟩=X (S [45]):=(aa u 2).trans (iE d).2.2.1;have m3:a.cell? ⟨on,3,Y⟩=X (S []):=(aa u 3).trans (iE d).2.2.2;have t0:a.cell? ⟨w.heap.size,0,Y⟩=X (S []):=(aa v 0).trans rfl;have t1:a.cell? ⟨w.heap.size,1,Y⟩=X (S []):=(aa v 1).trans rfl;have ft0:=ab v 0;have cp:=ab v 1;have aT:a.heap.size=w.heap.size+2:=by rw[a3.o.size];exact cc.o
 have d6:¬(w.heap.size+1=w.heap.size):=by omega
 have d7:¬(w.heap.size=w.heap.size+1):=by omega
 have bt:=Z al;have c2:=Z u;have c8:=Z v;have C:=Z aT;have c3:=Z aS;clear al aS u v aT r4 n0 n1 n2 n3 V b9 bc F T;have d5:=zw;obtain⟨i0,hi,bd,bk,bl⟩:=hI i9;have HI:=Z hi;have b1:=Z bd;have b2:=Z bk;have b3:=Z bl;have c4:Hid (a.ownsRow w.heap.size 9 1 (ds (X ⟨w.heap.size,0,Y⟩) 0 2) 0 (([]:List Bs).map λs=>S s)):=⟨by simp,.inr ⟨w.heap.size,2, #[S [],S []],rfl,em _,c8.o,by omega,by unfold maxLen;omega,by simp,by simp⟩⟩;clear hi bd bk bl t0 t1 ft0 cp;refine gO 3 ?_;rw[fl];go_upto_region 33 with fail;go_wp2_with (at_builtin;go_loud ((refine g1 _ rfl _ _ 81 rfl w.heap.size 9 i0 (.string ⟨#[]⟩) 1 16 underlying81 HI.o b1.o b2.o b3.o rfl g5 (ds (X ⟨w.heap.size,0,Y⟩) 0 2) 0 (([]:List Bs).map λs=>S s) ?_ ?_ ⟨a.heap.size+1,0,Y⟩ 1 1 [S [45]] ?_ ?_ ?_ ?_ ?_ ?_ ?_ ?_);(focus rfl);(focus exact((c4.o.alloc _).alloc _));(focus rfl);(focus rfl);(focus exact iA _ _ _ _);(focus simp[gx]);(focus (unfold maxLen;omega));(focus omega);(focus (have:=C.o;simp;omega));intro v' c o n _ _;obtain⟨W,p,rfl⟩:=aG o;have D:c.heap[w.heap.size+1]?=X (cs (bigC (ds (X ⟨w.heap.size,0,Y⟩) 0 2)) 403 (0,0)):=(n.block _ (by have:=C.o;simp;omega) (λe=>(by have f:X (w.heap.size+1)=X w.heap.size:=e;simp at f))).trans (by rw[e8 _ _ _ (by have:=C.o;simp;omega),e8 _ _ _ (by have:=C.o;omega)];exact I.o);obtain⟨a6,b4,K⟩:=kC D;have a7:=ab D 256;have bs:=n.size;have L:=aq D 256 (ds W 1 p);rw[vI]at L;obtain⟨G,w5,ax,ao⟩:=mL (c.setCell ⟨w.heap.size+1,256,Y⟩ (ds W 1 p));have O:w5.heap[w.heap.size+1]?=X (cs (bigC (ds W 1 p)) 403 (0,0)):=(ao.block _ (ae L)).trans L;obtain⟨_,b4,K⟩:=kC O;have cv:=ab O 45;have bB:=Z D;have bO:=Z O;have a0:=Z ao;have a4:=Z o;have a2:=Z n;clear D O L ao o n bs))
 have aT:=C.o;have bs:a.heap.size+2<=c.heap.size:=by have:=a2.o.size;simpa using this
 have cz:c.heap.size<=w5.heap.size:=by have:=a0.o.size;simpa using this
 obtain⟨b,rfl,N⟩:∃b,W=X ⟨b,0,Y⟩/\w.heap.size<=b/\b≠w.heap.size+1/\b<c.heap.size:=by
  obtain⟨g,ch,k,ay,aC⟩:=g4 a4.o (by omega);injection k with k _ _
  obtain⟨cu,av⟩:=aH a4.o (g:=g) (by rw[k];rfl);exact⟨g,k,ay,dp av bB.o (by decide),aC⟩
 obtain⟨h,A⟩:=Qe (w5.setCell ⟨w.heap.size+1,45,Y⟩ (ds (X ⟨c.heap.size,0,Y⟩) 0 G));have a9:h.heap[w.heap.size+1]?=X (cs (gF (ds (X ⟨b,0,Y⟩) 1 p) (ds (X ⟨c.heap.size,0,Y⟩) 0 G)) 403 (0,0)):=by rw[<- A];exact aq bO.o 45 _
 have Q:∀q,q<c.heap.size->q≠w.heap.size+1->h.heap[q]?=c.heap[q]?:=λq hq hn=>by rw[<- A,gq _ _ _ _ hn,a0.o.block q (by simpa using hq),gq _ _ _ _ hn]
 have d8:c.heap.size<=h.heap.size:=by rw[<- A];simpa using cz
 have ac:h.heap[on]?=X (cs (onC d) 9 (0,0)):=by have:=c3.o;rw[Q on (by omega) (by omega),a2.o.block on (by simp;omega) (λe=>(by have f:X on=X w.heap.size:=e;injection f with f;omega)),e8 _ _ _ (by simp;omega),e8 _ _ _ (by omega)];exact c2.o
 have p0:h.cell? ⟨on,0,Y⟩=X (S [32]):=(aa ac 0).trans (iE d).1;have p1:h.cell? ⟨on,1,Y⟩=X (S []):=(aa ac 1).trans (iE d).2.1;obtain⟨dc,dd⟩:=jh a9;have c5:Hid (h.ownsRow w.heap.size 9 1 (ds (X ⟨b,0,Y⟩) 1 p) 1 (([[45]]:List Bs).map λs=>S s)):=ai a4.o (λg hg=>by
  have f:b=g:=by have:X b=X g:=hg;injection this
  subst f;exact Q _ N.2.2 N.2.1)
 have bY:=Z a9;have d0:=Z Q;have cQ:=Z N;have cb:=Z A;rw[A];clear A Q a9 ac ax a6 b4 K a7 cv cd cg cn cm m0 m1 m2 m3;obtain⟨d1,d2,d3⟩:=N;rw[fl];go_upto_region 33 with fail;go_wp2_with (at_builtin;go_loud ((refine g1 _ rfl _ _ 81 rfl w.heap.size 9 i0 (.string ⟨#[]⟩) 1 16 underlying81 HI.o b1.o b2.o b3.o rfl g5 (ds (X ⟨b,0,Y⟩) 1 p) 1 (([[45]]:List Bs).map λs=>S s) ?_ ?_ ⟨h.heap.size+1,0,Y⟩ 1 1 [S [32]] ?_ ?_ ?_ ?_ ?_ ?_ ?_ ?_);(focus rfl);(focus exact((c5.o.alloc _).alloc _));(focus rfl);(focus rfl);(focus exact iA _ _ _ _);(focus simp[gx]);(focus (unfold maxLen;omega));(focus omega);(focus (simp;omega));intro v' i o n _ _;obtain⟨vb,vd,rfl⟩:=aG o;have E:i.heap[w.heap.size+1]?=X (cs (gF (ds (X ⟨b,0,Y⟩) 1 p) (ds (X ⟨c.heap.size,0,Y⟩) 0 G)) 403 (0,0)):=(n.block _ (by simp;omega) (λe=>(by have f:X (w.heap.size+1)=X b:=e;injection f with f;omega))).trans (by rw[e8 _ _ _ (by simp;omega),e8 _ _ _ (by omega)];exact bY.o);obtain⟨a6,K⟩:=jh E;have a7:=ab E 256;have M:=aq E 256 (ds vb 2 vd);rw[zV]at M;obtain⟨k9,H,ax,au⟩:=mL (i.setCell ⟨w.heap.size+1,256,Y⟩ (ds vb 2 vd));have P:H.heap[w.heap.size+1]?=X (cs (gF (ds vb 2 vd) (ds (X ⟨c.heap.size,0,Y⟩) 0 G)) 403 (0,0)):=(au.block _ (ae M)).trans M;obtain⟨_,cl⟩:=jh P;have cq:=ab P 32;have c0:=Z E;have c1:=Z P;have a1:=Z au;have a5:=Z o;have b0:=Z n;clear E P M au o n))
 obtain⟨m,rfl,d4,cx,cy⟩:∃m,vb=X ⟨m,0,Y⟩/\w.heap.size<=m/\m≠w.heap.size+1/\m<i.heap.size:=by
  obtain⟨g,ch,k,ay,aC⟩:=g4 a5.o (by omega);injection k with k _ _
  obtain⟨cu,av⟩:=aH a5.o (g:=g) (by rw[k];rfl);exact⟨g,k,ay,dp av c0.o (by decide),aC⟩
 have d9:h.heap.size+2<=i.heap.size:=by have:=b0.o.size;simpa using this
 have da:i.heap.size<=H.heap.size:=by have:=a1.o.size;simpa using this
 obtain⟨r,B⟩:=Qe (H.setCell ⟨w.heap.size+1,32,Y⟩ (ds (X ⟨i.heap.size,0,Y⟩) 0 k9));have b8:∀q,q<i.heap.size->q≠w.heap.size+1->r.heap[q]?=i.heap[q]?:=λq hq hn=>by rw[<- B,gq _ _ _ _ hn,a1.o.block q (by simpa using hq),gq _ _ _ _ hn]
 have c6:Hid (m9 w.heap.size r (w.heap.size+1)):=⟨X ⟨m,0,Y⟩,vd,c.heap.size,G,i.heap.size,k9,by rw[<- B];exact aq c1.o 32 _,ai a5.o (λg hg=>by
  have f:m=g:=by have:X m=X g:=hg;injection this
  subst f;exact b8 _ cy cx)⟩
 have bA:Hid (Bw w r):=by
  have h3:Bw w a:=bt.o;have h4:Bw w c:=(((h3.alloc (by omega) _).alloc (by simp;omega) _)).grown a2.o (by simp;omega) (λj ej=>by have f:w.heap.size=j:=by{have:X w.heap.size=X j:=ej;injection this};omega);have h5:Bw w w5:=(h4.setCell (by simp) _).trans (a0.o.mono (by simp;omega));have h6:Bw w h:=by rw[<- cb.o];exact h5.setCell (by simp) _
  have h8:Bw w i:=(((h6.alloc (by omega) _).alloc (by simp;omega) _)).grown b0.o (by simp;omega) (λj ej=>by have f:b=j:=by{have:X b=X j:=ej;injection this};omega);have h9:Bw w H:=(h8.setCell (by simp) _).trans (a1.o.mono (by simp;omega));have:Bw w (H.setCell ⟨w.heap.size+1,32,Y⟩ (ds (X ⟨i.heap.size,0,Y⟩) 0 k9)):=h9.setCell (by simp) _;rw[B]at this;exact this
 have cP:w.heap.size+1<r.heap.size:=by rw[<- B];simp;omega
 rw[B];clear B b8 ax a6 K cl a7 cq;rw[fl];go_wp2_with fail;go_ret;exact⟨rfl,bA.o,c6.o,cP⟩
theorem yN(R on f N:Nat)(k:Array fx)(B:R<N):kG R (ds (X ⟨on,0,Y⟩) 4 f) (.iface 404 (dx (X ⟨N+1,0,Y⟩)))
 (λw=>w.heap.size=N/\w.heap[on]?=X (cs (onC k) 9 (0,0))) (λw w'=>ah (λq=>q=R) w (λq=>q=R) w'/\m9 N w' (N+1)):=by
 intro w A h;obtain⟨rfl,m⟩:=A;have p:=Z (xG R on f k _ _ _ _ w h m);have r:=Z h;clear h m;go_enter func289,ntmps289;go_wp2_with (go_at_call 322;refine eg p.o ?_;rintro e d⟨rfl,i,n,K⟩;have b:d.heap[R]?=X (cs #[J .u32 0,J e5 1,J .u32 0,.nilIface,ds (X ⟨on,0,Y⟩) 4 f] 355 (0,0)):=(i.block R B).trans r.o;have F:d.cell? ⟨R,3,Y⟩=X .nilIface:=(aa b 3).trans rfl;have G:d.cell? ⟨R,4,Y⟩=X (ds (X ⟨on,0,Y⟩) 4 f):=(aa b 4).trans rfl;have H:=ab b 3;have I:=ab b 4;have s:=Z b;have o:=Z i;have t:=Z n;clear b i n)
 refine bodyPost_end (results_none rfl _ _ _) rfl ?_;have y:=aq s.o 3 (.iface 404 (dx (X ⟨w.heap.size+1,0,Y⟩)));have z:=aq y 4 (ds Y 0 0);have j:az R d ((d.setCell ⟨R,3,Y⟩ (.iface 404 (dx (X ⟨w.heap.size+1,0,Y⟩)))).setCell ⟨R,4,Y⟩ (ds Y 0 0)):=((az.refl R d).setCell 3 _).setCell 4 _;refine⟨rfl,z,(ah.of_below o.o).trans (ah.of_only j rfl),?_⟩;obtain⟨a,c,u,D,v,E,x,l⟩:=t.o;exact⟨a,c,u,D,v,E,(j.block _ (by omega)).trans x,ai l (λg C=>j.block g (λe=>by have:=(l.lt g C).1;omega))⟩
theorem AL(w:eQ)(A:Nat)(b:w.heap[A]?=X (cs #[S [32],S [],S [45],S []] 9 (0,0))):fr prog 237 #[ds (X ⟨A,0,Y⟩) 4 4] w λe w'=>∃R on a c,e=dk (dx (X ⟨R,0,Y⟩))/\w.heap.size<=R/\w.heap.size<=on/\R≠on/\
 w'.heap[R]?=X (cs #[J .u32 0,J e5 0,J .u32 0,.nilIface,ds (X ⟨on,0,Y⟩) 4 a] 355 (0,0))/\w'.heap[on]?=X (cs (onC c) 9 (0,0))/\Bw w w':=by
 have d:w.cell? ⟨A,0,Y⟩=X (S [32]):=(aa b 0).trans rfl;have f:w.cell? ⟨A,1,Y⟩=X (S []):=(aa b 1).trans rfl;have g:w.cell? ⟨A,2,Y⟩=X (S [45]):=(aa b 2).trans rfl;have h:w.cell? ⟨A,3,Y⟩=X (S []):=(aa b 3).trans rfl;clear b;go_enter func237,ntmps237;go_wp2_with fail;generalize(Question.appendCap 4 0 9).cut (w.tape w.drawn (Question.appendCap 4 0 9))=a;refine gP (v:=dx (X ⟨w.heap.size+1,0,Y⟩)) (by rw[results_tmp rfl];go_simp) rfl ?_;refine⟨w.heap.size+1,w.heap.size,a,Builtin.zeroCells #[gy {data:= #[]}] (a-4),rfl,by omega,em _,by omega,?_,?_,?_⟩
 .have:=es (w.alloc (cs (#[S [32],S [],S [45],S []]++Builtin.zeroCells #[gy {data:= #[]}] (a-4)) 9)) (cs #[J .u32 0,J e5 0,J .u32 0,.nilIface,ds (X ⟨w.heap.size,0,Y⟩) 4 a] 355);rw[fp]at this;exact this
 .show((w.alloc _).alloc _).heap[w.heap.size]?=_;rw[e8 _ _ _ (by simp)];exact es w _
 exact(((ex _ w).alloc (em _) _).alloc (by simp) _).drew
def fj(b:UInt8):Bool:=decide (b=32)||decide (b=45)
def keepL(s:Bs):Bs:=s.filter λb=> !fj b
def cntL(s:Bs):Nat:=s.count 45+s.count 32
theorem wQ(b:UInt8)(s:Bs):keepL (b::s)=if fj b then keepL s else b::keepL s:=by
 unfold keepL;rw[ft];cases fj b<;>rfl
theorem zK(b:UInt8)(s:Bs):cntL (b::s)=cntL s+if fj b then 1 else 0:=by
 unfold cntL;rw[List.count_cons,List.count_cons];by_cases h1:b=32
 .subst h1;have c:((32:UInt8)==45)=false:=rfl;have a:fj 32=true:=rfl;simp[c,a];omega
 by_cases h2:b=45
 .subst h2;have c:((45:UInt8)==32)=false:=rfl;have a:fj 45=true:=rfl;simp[c,a];omega
 have a:fj b=false:=by unfold fj;rw[decide_eq_false h1,decide_eq_false h2];rfl
 simp[h1,h2,a]
theorem gW(s:Bs):(keepL s).length+cntL s=s.length:=by
 induction s with
 |nil=>rfl
 |cons b s ih=> rw[wQ,zK,e6];cases fj b<;>simp<;>omega
theorem za{s:Bs}(h:cntL s=0):keepL s=s:=by
 have a:=gW s;rw[h]at a;exact List.filter_eq_self.2 (λb c=>by have:(s.filter λb=> !fj b).length=s.length:=a;exact List.length_filter_eq_length_iff.1 this b c)
theorem ke{s:Bs}{k:Nat}(a:k<s.length):keepL (s.take (k+1))=keepL (s.take k)++(if fj s[k]then[]else[s[k]]):=by
 unfold keepL;rw[ht a,ho,ft];cases fj s[k]<;>rfl
theorem zJ{s:Bs}{k:Nat}(c:k<s.length):cntL (s.take (k+1))=cntL (s.take k)+(if fj s[k]then 1 else 0):=by
 have a:=gW (s.take (k+1));have b:=gW (s.take k);rw[ke c,er]at a;rw[fb]at a b;have:min (k+1) s.length=k+1:=by omega
 have:min k s.length=k:=by omega
 cases hs:fj s[k]<;>simp[hs]at a ⊢ <;>omega
theorem pY(s:Bs)(k:Nat):(keepL (s.take k)).length<=(keepL s).length:=by
 have:keepL s=keepL (s.take k)++keepL (s.drop k):=by unfold keepL;rw[<- ho,hM]
 rw[this,er];omega
def byteRow(l:Bs):Array fx:=(l.map λb=>he dz b.toNat).toArray
def jg(s:Bs)(k:Nat):Bs:=keepL (s.take k)++gz ((keepL s).length-(keepL (s.take k)).length) 0
theorem sQ(s:Bs)(k:Nat):(jg s k).length=(keepL s).length:=by
 unfold jg;have:=pY s k;rw[er,List.length_replicate];omega
theorem xH(s:Bs):jg s 0=gz (keepL s).length 0:=by unfold jg;simp[keepL]
theorem zS(s:Bs):jg s s.length=keepL s:=by unfold jg;simp
theorem xI{s:Bs}{k:Nat}(b:k<s.length)(h:fj s[k]=true):jg s (k+1)=jg s k/\(keepL (s.take (k+1))).length=(keepL (s.take k)).length:=by
 have a:keepL (s.take (k+1))=keepL (s.take k):=by rw[ke b,if_pos h,hF]
 unfold jg;rw[a];exact⟨rfl,rfl⟩
theorem zR{s:Bs}{k:Nat}(c:k<s.length)(h:fj s[k]=false):jg s (k+1)=(jg s k).set (keepL (s.take k)).length s[k]/\(keepL (s.take (k+1))).length=(keepL (s.take k)).length+1/\(keepL (s.take k)).length<(keepL s).length:=by
 have a:keepL (s.take (k+1))=keepL (s.take k)++[s[k]]:=by rw[ke c,h];rfl
 have b:=pY s (k+1);rw[a,er]at b;simp only[hO]at b;refine⟨?_,by rw[a];simp,by omega⟩;unfold jg;rw[a,er,hO];obtain⟨m,d⟩:∃m,(keepL s).length-(keepL (s.take k)).length=m+1:=⟨(keepL s).length-(keepL (s.take k)).length-1,by omega⟩;have e:(keepL s).length-((keepL (s.take k)).length+1)=m:=by omega
 rw[d,e,List.replicate_succ,List.set_append_right _ _ (em _),Nat.sub_self,List.set_cons_zero,List.append_assoc];rfl
theorem sP(l:Bs)(k:Nat)(b:UInt8):(byteRow l).setIfInBounds k (J dz b.toNat)=byteRow (l.set k b):=by
 unfold byteRow;rw[List.setIfInBounds_toArray,List.map_set]
theorem jK(l:Bs):(byteRow l).size=l.length:=by simp[byteRow]
theorem AO(n:Nat)(hn:n<=1000000000)(w:eQ):(Instr.makeSlice 76 (J U n) (J U n)).run prog w=.ok (ds (X ⟨w.heap.size,0,Y⟩) n n) (w.alloc (cs (byteRow (gz n 0)) 5)):=by
 obtain⟨i,b,d,c,a⟩:=hI (show(prog.info? 5).map (λi=>(i.zero,i.size,i.bytes))=X (X (J dz 0),1,1) by kernel_rfl);rw[run_make w 76 5 i (J dz 0) underlying76 b d U U n n (by omega) (by omega) (by rw[a];omega) (by omega)];have:madeCells (he dz 0).cells ((n:Int).toNat*i.size)=byteRow (gz n 0):=by
  rw[c];unfold byteRow;apply Array.ext
  .simp[madeCells]
  intro j e f;simp[madeCells,Value.cells,Nat.mod_one]
 rw[this];rfl
structure z8(g bt rc:Nat)(W:eQ):Prop where
 sep:∀b:UInt8,fj b=true->∃q k:Nat,W.cell? ⟨g,b.toNat,none⟩=some (.slice (some ⟨q,0,none⟩) 0 k)
 no:∀b:UInt8,fj b=false->W.cell? ⟨g,b.toNat,none⟩=some (.slice none 0 0)
 all:W.cell? ⟨g,256,none⟩=some (.slice (some ⟨bt,0,none⟩) 2 rc)
 one:W.cell? ⟨bt,0,none⟩=some (S [45])
 two:W.cell? ⟨bt,1,none⟩=some (S [32])
theorem m9.cells{lo g:Nat}{w:eQ}(h:m9 lo w g):∃c f,∀W,Bw w W->z8 g c f W:=by
 obtain⟨z,f,k,o,l,p,m,i⟩:=h;obtain⟨c,u,j,v,x⟩:=g4 i (by omega);injection j with j _ hc
 subst j;refine⟨c,f,λW a=>?_⟩;have d:=(a.block _ (ae m)).trans m;have n:=ai i (λq t=>a.block q (i.lt q t).2);have y:((gF (ds (X ⟨c,0,Y⟩) 2 f) (ds (X ⟨k,0,Y⟩) 0 o)).setIfInBounds 32 (ds (X ⟨l,0,Y⟩) 0 p)).size=257:=by rw[Array.size_setIfInBounds,oP]
 refine⟨λb a=>?_,λb a=>?_,?_,?_,?_⟩
 .rcases(by simpa[fj]using a:b=32∨b=45)with rfl|rfl
  .refine⟨l,p,(aa d _).trans ?_⟩;show((gF _ _).setIfInBounds 32 _)[32]?=_;rw[Array.getElem?_setIfInBounds_self_of_lt (by rw[oP];omega)]
  refine⟨k,o,(aa d _).trans ?_⟩;show((gF _ _).setIfInBounds 32 _)[45]?=_;rw[e7 (by decide)];unfold gF;rw[Array.getElem?_setIfInBounds_self_of_lt (by rw[eb];omega)]
 .have r:b≠32:=λe=>by subst e;cases a
  have s:b≠45:=λe=>by subst e;cases a
  refine(aa d _).trans ?_;rw[e7 (show(32:Nat)≠b.toNat fromλe=>r (UInt8.toNat_inj.1 (show b.toNat=(32:UInt8).toNat from e.symm)))];unfold gF;rw[e7 (show(45:Nat)≠b.toNat fromλe=>s (UInt8.toNat_inj.1 (show b.toNat=(45:UInt8).toNat from e.symm)))];exact kD _ _ b.toNat_lt
 .refine(aa d _).trans ?_;rw[e7 (by decide)];unfold gF;rw[e7 (by decide)];exact lG _
 .have:=n.cellAt 0 (by simp);exact this.trans rfl
 have:=n.cellAt 1 (by simp);exact this.trans rfl
theorem xu(a:Option Addr)(n c q k:Nat)(w:eQ):(Builtin.copy_ #[76,76] 3 #[ds a n c,ds (X ⟨q,0,Y⟩) 0 k]).run prog w=.ok (J U 0) w:=by
 cases hq:prog.info? 5 with
 |none=>exact absurd hq (by decide+kernel)
 |some i=>cases a<;>simp[Builtin.copy_,run_underlying underlying76,Builtin.lenOf,Builtin.firstCells,Go.sizeOf,typeInfo,hq,loadCellsFrom,storeCells,loadCells,goInt]
theorem w64(x:Int)(a: -9223372036854775808<=x)(b:x<=9223372036854775807):wrap64 x=x:=IntWalk.wrap64_in x ⟨a,b⟩
theorem rz(lo g:Nat)(s:Bs)(w:eQ)(h:m9 lo w g)(hs:s.length<=1000000000):fr prog 394 #[dx (X ⟨g,0,Y⟩),S s] w λe w'=>e=dk (S (keepL s))/\Bw w w':=by
 obtain⟨bt,rc,a9⟩:=h.cells;have D:=Z a9;have bB:g<w.heap.size:=by obtain⟨_,_,_,_,_,_,hG,_⟩:=h;exact ae hG
 obtain⟨K,R⟩:=Qe (keepL s);obtain⟨N,hN⟩:=Qe K.length;obtain⟨m,hm⟩:=Qe (decide (cntL s≠0));have l:=Z R;have E:=Z hN;have HM:=Z hm;have aS:N+cntL s=s.length:=by rw[<- hN,<- R];exact gW s
 have ao:=Z aS;have b9:N<=1000000000:=by omega
 obtain⟨_,_,b5,t0,t1⟩:=a9 w (ex _ w);rw[R];clear h a9 R hN hm aS;go_enter func394,ntmps394;go_upto_if 26 with fail;go_cut [5,6] (λn y wx=>n=J U N/\y=dy m/\∃k,wx=w.drewN k)
 case first=>
  by_cases hL:(16:Int)<=s.length;rotate_left
  .have hd:decide ((16:Int)<=s.length)=false:=decide_eq_false hL;have bk:=rG;have bl:=ol;go_wp2_with fail;go_loopw [5,6,10,11] (λn y i _b wr=>wr=w/\∃k:Nat,k<=s.length/\i=J U k/\n=J U ((s.length-cntL (s.take k):Nat):Int)/\y=dy (decide (cntL (s.take k)≠0))) (λ_ _ i _ _=>s.length-(intOf i).toNat)
   exact⟨rfl,0,gp _,rfl,by simp[cntL],by simp[cntL]⟩;obtain⟨rfl,k,hk,rfl,rfl,rfl⟩:=hrel;by_cases hlt:k<s.length;rotate_left
   .have aC:s.take k=s:=g9 (by omega);rw[aC];have b:Hid (s.length-cntL s=N/\decide (cntL s≠0)=m):=⟨by have:=ao.o;omega,HM.o⟩;obtain⟨p,F⟩:=Qe (cntL s);rw[F]at b ⊢;obtain⟨P,o⟩:=Qe (s.length-p);obtain⟨z,t⟩:=Qe (decide (p≠0));rw[o,t]at b ⊢;clear F o t aC;go_wp2_with fail;go_meet;exact⟨by rw[b.o.1],by rw[b.o.2],0,rfl⟩
   have bc:(k:Int)<s.length:=by omega
   obtain⟨x,G⟩:=Qe (s[k]);have f:=zJ hlt;rw[G]at f;have ac:cntL (s.take k)<=k:=by have:=gW (s.take k);rw[fb]at this;omega
   obtain⟨p,F⟩:=Qe (cntL (s.take k));rw[F]at f ac ⊢;have bs:=nL x;have bv:=yb x;obtain⟨P,o⟩:=Qe (s.length-p);obtain⟨z,t⟩:=Qe (decide (p≠0));have HP:=Z o;have HZ:=Z t;rw[o,t];cases hsx:fj x
   .have a8:=(D wr (ex _ wr)).no x hsx;rw[hsx]at f;have b:Hid (cntL (s.take (k+1))=p):=f;clear f F hsx o t;go_wp2_with fail;go_roundw;exact⟨trivial,k+1,by omega,by go_num,by rw[b.o,HP.o],by rw[b.o,HZ.o]⟩;simp[intOf];omega
   obtain⟨q,kq,a8⟩:=(D wr (ex _ wr)).sep x hsx;rw[hsx]at f;have b:Hid (cntL (s.take (k+1))=p+1):=f;have hw:IntKind.i64.wrap ((P:Int)+ -1)=((P-1:Nat):Int):=(gi _ (by omega)).trans (by omega);clear f F hsx o t;go_wp2_with fail;go_roundw
   case rel=>exact⟨trivial,k+1,by omega,by go_num,by rw[b.o,<- HP.o,Nat.sub_sub],by rw[b.o];rfl⟩
   simp[intOf];omega
  have hd:decide ((16:Int)<=s.length)=true:=decide_eq_true hL;have a4:Hid (∀(c:UInt8)W,fr prog 396 #[S s,S [c]] W λe w'=>e=dk (J U (s.count c))/\w'=W):=λc W=>xt s c W;have HA:Hid (∀W,fr prog 396 #[S s,S [45]] W λe w'=>e=dk (J U (s.count 45))/\w'=W):=λW=>a4 45 W;have M:Hid (∀W,fr prog 396 #[S s,S [32]] W λe w'=>e=dk (J U (s.count 32))/\w'=W):=λW=>a4 32 W;have a2:=ao.o;have a5:=HM.o;unfold cntL at a2 a5;obtain⟨q1,j1,b7⟩:=(D w (ex _ w)).sep 45 rfl;obtain⟨q2,j2,b6⟩:=(D w (ex _ w)).sep 32 rfl;change w.cell? ⟨g,45,Y⟩=_ at b7;change w.cell? ⟨g,32,Y⟩=_ at b6;generalize s.count 45=A at*;generalize s.count 32=B at*;clear a4;have e0:IntKind.i64.wrap ((A:Int)* -1)= -(A:Int):=by rw[Int.mul_neg_one];exact gi _ (by omega)
  have e1:IntKind.i64.wrap ((s.length:Int)+ -(A:Int))=((N+B:Nat):Int):=(gi _ (by omega)).trans (by omega);have e2:IntKind.i64.wrap ((B:Int)* -1)= -(B:Int):=by rw[Int.mul_neg_one];exact gi _ (by omega)
  have e3:IntKind.i64.wrap (((N+B:Nat):Int)+ -(B:Int))=(N:Int):=(gi _ (by omega)).trans (by omega);have e4:A=0->IntKind.i64.wrap ((s.length:Int)+ -(B:Int))=(N:Int):=λh=>(gi _ (by omega)).trans (by omega);have b1:=Z e4;have L:=Z a2;have a1:=Z a5;clear e4 a2 a5;go_wp2_with fail;refine gO 3 ?_;rw[fl];by_cases hA:A=0
  .have b8:((A:Int)!=0)=false:=by simp[hA]
   have e4:=b1 hA;have I:=Z hA;clear hA;go_wp2_with (go_at_call 396;(refine eg (HA.o _) ?_;rintro e w1⟨rfl,rfl⟩))
   rw[fl];by_cases hB:B=0
   .have a3:((B:Int)!=0)=false:=by simp[hB]
    have b:Hid (s.length=N/\false=m):=⟨by have:=L.o;have:=I.o;omega,by rw[<- a1.o,I.o,hB];rfl⟩;clear hB;go_wp2_with (go_at_call 396;(refine eg (M.o _) ?_;rintro e w1⟨rfl,rfl⟩))
    rw[fl];go_wp2_with fail;go_meet;exact⟨by rw[b.o.1],by rw[b.o.2],0,rfl⟩
   have a3:((B:Int)!=0)=true:=by simp;omega
   have b:Hid (true=m):=by unfold Hid;rw[<- a1.o];simp;omega
   clear hB;go_wp2_with (go_at_call 396;(refine eg (M.o _) ?_;rintro e w1⟨rfl,rfl⟩))
   go_region;go_wp2_with fail;rw[fl];go_wp2_with fail;go_meet;exact⟨congrArg (he U) (by have h1:=L.o;have h2:=I.o;rw[w64 (-(B:Int)) (by omega) (by omega),w64 _ (by omega) (by omega)];omega),by rw[b.o],1,rfl⟩
  have b8:((A:Int)!=0)=true:=by simp;omega
  have b:Hid (true=m):=by unfold Hid;rw[<- a1.o];simp;omega
  have I:=Z hA;clear hA;go_wp2_with (go_at_call 396;(refine eg (HA.o _) ?_;rintro e w1⟨rfl,rfl⟩))
  go_region;go_wp2_with fail;rw[fl];by_cases hB:B=0
  .have a3:((B:Int)!=0)=false:=by simp[hB]
   have a0:=Z hB;clear hB;go_wp2_with (go_at_call 396;(refine eg (M.o _) ?_;rintro e w1⟨rfl,rfl⟩))
   rw[fl];go_wp2_with fail;go_meet;exact⟨congrArg (he U) (by have h1:=L.o;have h2:=a0.o;rw[w64 (-(A:Int)) (by omega) (by omega),w64 _ (by omega) (by omega)];omega),by rw[b.o],1,rfl⟩
  have a3:((B:Int)!=0)=true:=by simp;omega
  clear hB;go_wp2_with (go_at_call 396;(refine eg (M.o _) ?_;rintro e w1⟨rfl,rfl⟩))
  go_region;go_wp2_with fail;rw[fl];go_wp2_with fail;go_meet;exact⟨congrArg (he U) (by have h1:=L.o;rw[w64 (-(A:Int)) (by omega) (by omega),w64 (-(B:Int)) (by omega) (by omega),w64 ((s.length:Int)+ -(A:Int)) (by omega) (by omega),w64 _ (by omega) (by omega)];omega),by rw[b.o],2,rfl⟩
 obtain⟨rfl,rfl,nq,rfl⟩:=hcut;have a7:Bw w (w.drewN nq):=bE.below (w:=w) (w':=w.drewN nq) ⟨nq, #[],by rw[Sort.grow_empty]⟩;obtain⟨d,av⟩:=Qe (w.drewN nq);rw[av]at a7 ⊢;have O:=Z a7;clear a7 av b5 t0 t1;cases m
 .have b3:Hid (K=s):=by unfold Hid;rw[<- l.o];exact za (by have:=HM.o;simpa using this)
  go_wp2_with fail;go_ret;exact⟨(by rw[b3.o];rfl),O.o⟩
 have bd:=AO N b9 d;have c3:(0:Int)<=N:=by omega
 obtain⟨w1,T⟩:=Qe (d.alloc (cs (byteRow (gz N 0)) 5));have ax:Bw w w1:=by rw[<- T];exact O.o.alloc O.o.size _
 have au:w1.heap[d.heap.size]?=X (cs (byteRow (gz N 0)) 5 (0,0)):=by rw[<- T];exact es d _
 rw[T]at bd;have a0:=Z ax;have aT:=Z au;clear ax au T;go_wp2_with fail;go_loopw [13,14,15] (λj i _b wr=>∃k:Nat,k<=s.length/\i=J U k/\j=J U (keepL (s.take k)).length/\Hid (Bw w wr)/\Hid (wr.heap[d.heap.size]?=X (cs (byteRow (jg s k)) 5 (0,0)))) (λ_ i _ _=>s.length-(intOf i).toNat)
 case atStart=>exact⟨0,gp _,rfl,by simp[keepL],a0,by unfold Hid;rw[xH,l.o,E.o];exact aT.o⟩
 obtain⟨k,hk,rfl,rfl,C,v⟩:=hrel;by_cases hlt:k<s.length;rotate_left
 .have ay:k=s.length:=by omega
  have b2:Hid (wr.heap[d.heap.size]?=X (cs (byteRow K) 5 (0,0))):=by have:=v.o;rw[ay,zS,l.o]at this;exact this
  have bb:=run_convert_bytes_back (P:=prog) wr 76 9 5 ⟨d.heap.size,0,Y⟩ N K underlying76 underlying5 underlying9 (λj r=>by
   have e:(⟨d.heap.size,0,Y⟩:Addr).add j=⟨d.heap.size,j,Y⟩:=by simp only[Addr.add];split<;>simp_all
   rw[e,aa b2.o j];unfold byteRow;simp[r])
  rw[E.o]at bb;clear ay;go_wp2_with fail;go_ret;exact⟨rfl,C.o⟩
 have bc:(k:Int)<s.length:=by omega
 have ad:(keepL (s.take k)).length<=N:=by rw[<- E.o,<- l.o];exact pY s k
 obtain⟨x,G⟩:=Qe (s[k]);have bs:=nL x;have bv:=yb x;have bk:=rG;have bl:=ol;cases hsx:fj x
 .have a8:=(D wr C.o).no x hsx;obtain⟨H,u,V⟩:=zR hlt (by rw[G];exact hsx);rw[l.o,E.o]at V;obtain⟨j,r⟩:=Qe ((keepL (s.take k)).length);rw[r]at H u V ad ⊢;have ac:wr.cell? ⟨d.heap.size,j,Y⟩=X ((byteRow (jg s k))[j]'(by rw[jK,sQ,l.o,E.o];exact V)):=(aa v.o j).trans (Array.getElem?_eq_getElem _);have bA:=ab v.o j;have a6:=aq v.o j (J dz x.toNat);rw[sP,<- G,<- H,G]at a6;have b4:=Z a6;have Q:=Z u;have b0:Hid (w.heap.size<=d.heap.size):=O.size;generalize((byteRow (jg s k))[j]'(by rw[jK,sQ,l.o,E.o];exact V))=old at ac;have c4:(j:Int)<N:=by omega
  clear H u r hsx a6;go_wp2_with fail;go_roundw;exact⟨k+1,by omega,by go_num,by rw[Q.o];go_num,C.o.setCell b0.o _,b4⟩;simp[intOf];omega
 obtain⟨q,kq,a8⟩:=(D wr C.o).sep x hsx;obtain⟨H,u⟩:=xI hlt (by rw[G];exact hsx);obtain⟨j,r⟩:=Qe ((keepL (s.take k)).length);rw[r]at u ad ⊢;have al:=Z H;have Q:=Z u;have bw:=λa n c=>xu a n c q kq wr.drew;clear H u r hsx;have bO:(0:Int)<=j:=by omega
 rcases Nat.lt_or_eq_of_le ad with bY|rfl
 .have c0:(j:Int)<N:=by omega
  have c1:¬(N=j):=by omega
  have c2:¬(j=N):=by omega
  go_wp2_with fail;go_region;go_wp2_with fail;go_roundw;exact⟨k+1,by omega,by go_num,by rw[Q.o],C.o.drew,by unfold Hid;rw[al.o];exact v.o⟩;simp[intOf];omega
 go_wp2_with fail;go_region;go_wp2_with fail;go_roundw
 case rel=>exact⟨k+1,by omega,by go_num,by rw[Q.o],C.o.drew,by unfold Hid;rw[al.o];exact v.o⟩
 simp[intOf];omega
theorem ud(p:Option Addr)(W:eQ):(method 567 404 (.pointer p) "Replace").run prog W=.ok (394,.pointer p) W:=by kernel_rfl
theorem rA(R on t:Nat)(i:Array fx)(s:Bs)(w:eQ)(d:w.heap[R]?=X (cs #[J .u32 0,J e5 0,J .u32 0,.nilIface,ds (X ⟨on,0,Y⟩) 4 t] 355 (0,0)))(h:w.heap[on]?=X (cs (onC i) 9 (0,0)))(H:s.length<=1000000000):
 fr prog 238 #[dx (X ⟨R,0,Y⟩),S s] w λe w'=>e=dk (S (keepL s))/\ah (λq=>q=R) w (λq=>q=R) w':=by
 have B:=ae d;have E:R≠on:=dp d h (by decide);have v:=Z (Cx R _ _ _ _ (yN R on t w.heap.size i B) w (λw' m=>⟨m.size,(m.block on E.symm).trans h⟩) d);clear d h;go_enter func238,ntmps238;go_upto_region 2 with(go_at_call 288;refine eg v.o ?_;rintro e b⟨rfl,G⟩)
 obtain⟨N,O,n,⟨r,o⟩,f,k⟩:=G;have l:ah (λq=>q=R) w (λq=>q=R) b:=((ah.of_only (F:=λq=>q=R) n rfl).trans r).trans (ah.of_only (F:=λq=>q=R) f rfl);have p:m9 w.heap.size b (w.heap.size+1):=by obtain⟨a,c,y,I,z,K,A,j⟩:=o;exact⟨a,c,y,I,z,K,(f.block _ (by omega)).trans A,ai j (λg D=>f.block g (λe=>by have:=(j.lt g D).1;omega))⟩
 have L:b.cell? ⟨R,3,Y⟩=X (.iface 404 (dx (X ⟨w.heap.size+1,0,Y⟩))):=(aa k 3).trans rfl;have x:=Z l;have u:=Z (rz w.heap.size (w.heap.size+1) s b p H);have M:=ud (X ⟨w.heap.size+1,0,Y⟩) b;clear n r o f k l p;go_wp2_with (go_at_call 394;refine eg u.o ?_;rintro e P⟨rfl,C⟩)
 go_ret;exact⟨rfl,x.trans (ah.of_below C)⟩
end
section
open Go.Shelf
def rO:Go.Shelf.Ren:=⟨λ|190=>186|125=>136|258=>251|128=>199|129=>200|302=>294|303=>295|304=>296|305=>297|306=>298|307=>299|308=>300|309=>301|310=>302|333=>325|329=>261|330=>262|334=>326|335=>327|336=>328|344=>341|n=>n,λ|31=>81|9=>9|3=>3|46=>218|0=>0|51=>277|53=>143|4=>4|183=>271|182=>270|131=>112|5=>5|218=>317|222=>320|228=>367|229=>368|n=>n,λ|n=>n⟩
theorem vr:Go.Proofs.Lays.n190 prog rO:={
 mixed:=by kernel_rfl
 f125:=Qf func136
 f128:=Qf func199
 f129:=Qf func200
 f190:=Qf func186
 f258:=Qf func251
 f302:=Qf func294
 f303:=Qf func295
 f304:=Qf func296
 f305:=Qf func297
 f306:=Qf func298
 f307:=Qf func299
 f308:=Qf func300
 f309:=Qf func301
 f310:=Qf func302
 f329:=Qf func261
 f330:=Qf func262
 f333:=Qf func325
 f334:=Qf func326
 f335:=Qf func327
 f336:=Qf func328
 f344:=Qf func341
 t0:=underlying0
 a0:=Tryz.isAgg0
 z0:=sizeOf0
 v0:=zeroValue0
 t3:=underlying3
 a3:=Tryz.isAgg3
 z3:=sizeOf3
 v3:=zeroValue3
 t4:=underlying4
 a4:=Tryz.isAgg4
 z4:=sizeOf4
 v4:=zeroValue4
 t5:=underlying5
 a5:=Tryz.isAgg5
 z5:=sizeOf5
 v5:=zeroValue5
 t9:=underlying9
 a9:=Tryz.isAgg9
 z9:=sizeOf9
 v9:=zeroValue9
 t31:=underlying81
 a31:=Tryz.isAgg81
 z31:=sizeOf81
 v31:=zeroValue81
 t46:=underlying218
 a46:=Tryz.isAgg218
 z46:=sizeOf218
 v46:=zeroValue218
 t51:=underlying277
 a51:=Tryz.isAgg277
 z51:=sizeOf277
 v51:=zeroValue277
 t53:=underlying143
 a53:=Tryz.isAgg143
 z53:=sizeOf143
 v53:=zeroValue143
 t131:=underlying112
 a131:=Tryz.isAgg112
 z131:=sizeOf112
 v131:=zeroValue112
 t182:=underlying270
 a182:=Tryz.isAgg270
 z182:=sizeOf270
 v182:=zeroValue270
 t183:=underlying271
 a183:=Tryz.isAgg271
 z183:=sizeOf271
 v183:=zeroValue271
 t218:=underlying317
 a218:=Tryz.isAgg317
 z218:=sizeOf317
 v218:=zeroValue317
 t222:=underlying320
 a222:=Tryz.isAgg320
 z222:=sizeOf320
 v222:=zeroValue320
 t228:=underlying367
 a228:=Tryz.isAgg367
 z228:=sizeOf367
 v228:=zeroValue367
 t229:=underlying368
 a229:=Tryz.isAgg368
 z229:=sizeOf368
 v229:=zeroValue368}
open Go.Sort Go.RowKit in
theorem slices_Sort_string(a c d:Nat)(b:List (List UInt8))(w:eQ)(f:Holds encStr w a c b.toArray)(g:a<w.heap.size)(h:b.length<4611686018427387904):
 fr prog 186 #[ds (X ⟨a,c,Y⟩) b.length d] w λe w'=>
  e=dk (.tuple #[])/\∃n i,w'=grow (putRow encStr (Sort.ahead w n) a c (b.mergeSort λx y=>decide (x<=y)).toArray) i:=Any.slices_Sort_string vr a c d b w f g h
def rN:Go.Shelf.Ren:=⟨λ|193=>189|n=>n,λ|31=>81|9=>9|4=>4|3=>3|0=>0|n=>n,λ|n=>n⟩
theorem pV:Go.Proofs.Lays.n193 prog rN:={
 mixed:=by kernel_rfl
 f193:=Qf func189
 t0:=underlying0
 a0:=Tryz.isAgg0
 z0:=sizeOf0
 v0:=zeroValue0
 t3:=underlying3
 a3:=Tryz.isAgg3
 z3:=sizeOf3
 v3:=zeroValue3
 t4:=underlying4
 a4:=Tryz.isAgg4
 z4:=sizeOf4
 v4:=zeroValue4
 t9:=underlying9
 a9:=Tryz.isAgg9
 z9:=sizeOf9
 v9:=zeroValue9
 t31:=underlying81
 a31:=Tryz.isAgg81
 z31:=sizeOf81
 v31:=zeroValue81}
open Go.RowKit Go.Lib in
theorem slices_Equal_string(b g n c f h m d:Nat)(a ys:List ByteArray)(w:eQ)(p:n<=a.length)(r:m<=ys.length)(i:n<=9223372036854775807)(k:m<=9223372036854775807)(l:∀j,j<a.length->w.cell? ⟨b,g+j,Y⟩=X (.string (a.getD j ByteArray.empty)))(o:∀j,j<ys.length->w.cell? ⟨f,h+j,Y⟩=X (.string (ys.getD j ByteArray.empty))):
 fr prog 189 #[ds (X ⟨b,g,Y⟩) n c,ds (X ⟨f,h,Y⟩) m d] w λe w'=>e=dk (dy (decide (a.take n=ys.take m)))/\∃q,w'=w.drewN q:=Any.slices_Equal_string pV b g n c f h m d a ys w p r i k l o
open Go.RowKit Go.Lib in
theorem slices_Equal_string_empty(a b:Option Addr)(c m d:Nat)(w:eQ)(f:m<=9223372036854775807):
 fr prog 189 #[ds a 0 c,ds b m d] w λe w'=>e=dk (dy (decide (m=0)))/\w'=w:=Any.slices_Equal_string_empty pV a b c m d w f
open Go.RowKit Go.Sort in
theorem slices_Sort_string_none(p:Option Addr)(a:Nat)(w:eQ):
 fr prog 186 #[ds p 0 a] w λe w'=>e=dk (.tuple #[])/\w'=w:=Any.slices_Sort_string_none vr p a w
open Go.RowKit Go.Lib in
theorem slices_Equal_string_lens(a b:Option Addr)(n c m d:Nat)(w:eQ)(f:n≠m):
 fr prog 189 #[ds a n c,ds b m d] w λe w'=>e=dk (dy false)/\w'=w:=Any.slices_Equal_string_lens pV a b n c m d w f
end
end Go.Proofs.YtjcimanddakkaaaGreatDoor
