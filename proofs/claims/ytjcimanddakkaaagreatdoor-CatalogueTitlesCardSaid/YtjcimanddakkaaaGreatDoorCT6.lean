/- Lemmas. -/
import Derived.Test.YtjcimanddakkaaaGreatDoorCT5
import Derived.Test.YtjcimanddakkaaaGreatDoorCT8
import Derived.Lib.TrimAscii
import Derived.Lib.ConvBytes
import Derived.Shelf.Small.Wraps
import Derived.Shelf.Strings.BuilderRune
import Derived.Shelf.Utf8.AppendRune
import Derived.Shelf.Utf8.AppendRunePlain
import Derived.Shelf.Utf8.RuneCount
import Derived.Shelf.Strings.Shaped
import Derived.Shelf.Sort.Plain
import Derived.Shelf.Strings.Split
import Derived.Shelf.Unicode.Latin
import Derived.Shelf.Unicode.Decode
import Derived.Shelf.Strings.RuneCount
import Derived.Shelf.Unicode.DecodeLast
import Derived.Shelf.Unicode.CaseLaid
import Derived.Shelf.Strings.BuilderCap
import Derived.Shelf.Slices.SearchI
import Derived.Shelf.Slices.Cells
import Derived.Shelf.Slices.In.SortNone
import Derived.Shelf.Slices.Empties2
set_option maxRecDepth 100000
set_option maxHeartbeats 8000000
namespace Go.Proofs.YtjcimanddakkaaaGreatDoor
open _root_.Option renaming some→X,none→Y
open Go.Obj renaming cells→cs
open Go.Ending renaming returned→da
open Go.Lib renaming hid→Z
open Go.Value renaming slice→dc,pointer→dk,bool→dq,int→J
open Go.IntKind renaming i64→U,u8→ds,i32→dx
open Tryz
open Go.Calls renaming mono→dy
open _root_.Nat renaming le_refl→dz,le_trans→fr,zero_le→gb,one_pos→g1
open _root_.List renaming length_append→eb,length_cons→es,length_take→e6,length_drop→e7,filter_cons→fl,length_map→fs,map_cons→fx,takeWhile_cons→fz,sum_cons→gi,map_append→gn,replicate→gs,length_nil→gz,drop_eq_getElem_cons→gP,length→gQ,take_of_length_le→g3,drop_of_length_le→g4,mem_cons_of_mem→g9,mem_cons_self→he,filter_append→hf,take_succ_eq_append_getElem→hj,map→hl,append_nil→ho,take_append_drop→hH,length_singleton→hI,getD_cons_zero→hK,map_singleton→hO
open Go.World renaming alloc_heap_new→eg,size_alloc→e9,cell?_alloc_new→g5,iterPos→hb,ownsRow_nil→hh
open Go.RowKit.Below renaming refl→em,heap_alloc→eQ,heap_setCell→gd
open Go renaming World→er,rounds_succ→e8,Calls→fb,Value→fp,wp_loop_rounds→gt,bodyPost_ret→gx,wpList_append_own_at→gO,info_parts→ht
open _root_.Array renaming getElem?_setIfInBounds_ne→ex,getElem?_append_left→hr,getElem?_eq_none→hF,length_toList→hJ
open _root_.UInt8 renaming ofNat→e5,ofNat_toNat→hM
open Go.Utf8 renaming decode→fc,encode→gy
open Go.Exit renaming noGoto_ret→ft
open Go.IntWalk renaming i64_in→fy
open Go.Value renaming oneCell'→gp,string→gq,int→g7,slice→ha
open Go.World.ownsRow renaming form→g0
open Go.Lib renaming indexByte→g2,run_next_end_at→hP,run_next_any_at→hQ
open Go.Instr renaming next→hu
open Go.RowKit renaming Below→hV
section
open Go.RowKit Go.Maps Go.Shelf
attribute [local go_sem] Oper.semAt_some
theorem KeepsOthers.of_below{W a:er}(h:Bw W a):KeepsOthers W a:=
 ⟨h.size,λk _ b _=>(h.block k (af b)).trans b⟩
theorem nj.of_below{M:Nat->Prop}{W a:er}(h:Bw W a)(b:∀k,M k->k<W):nj M W a:=λk c=>h.block k (b k c)
theorem dj.of_below{B:Nat}{M:Nat->Prop}{W b:er}(h:Bw W b)(c:∀k,M k->k<W):dj B M W M b:=
 ⟨h.os,h.tape,h.output,h.size,λk a _ _=>h.block k a,λ_ h=>.inl h,λk a=>Nat.lt_of_lt_of_le (c k a) h.size⟩
theorem iY:∀w:Bs,(h:w≠[])->stripR w=(w.take (w.length-1)).dropWhile (· ==48)++w.drop (w.length-1)
 |[],h=>absurd rfl h
 |[c],_=>by simp[stripR]
 |c::d::l,_=>by
  have ih:=iY (d::l) (by simp)
  unfold stripR
  have a:(c::d::l).length-1=((d::l).length-1)+1:=by simp
  rw[a,List.take_succ_cons,List.drop_succ_cons,List.dropWhile_cons]
  by_cases h:c=48
  .rw[if_pos h,if_pos (by simp[h]),ih]
  .rw[if_neg h,if_neg (by simp[h])]
   rw[List.cons_append,hH]
theorem nY(w:Bs):(stripR w).length<=w:=by
 by_cases h:w=[]
 .subst h;simp[stripR]
 rw[iY w h,eb,e7];have:=List.Sublist.length_le (List.dropWhile_sublist (λx:UInt8=>x==48) (l:=w.take (w.length-1)));rw[e6]at this;omega
theorem rO(w:Bs):(dl w).length<=w+2:=by
 unfold dl;split
 .have:=nY w;simp only[es];omega
 omega
theorem iz:∀l:List Bs,(joinR l).length<=(l.map λs=>s.length+1).sum
 |[]=>by simp[joinR]
 |[a]=>by simp[joinR]
 |a::b::l=>by
  have:=iz (b::l)
  unfold joinR
  simp only[eb,fx,gi,es,gz]at*
  omega
theorem qV(a:List Nat)(l:Bs):((aX a l).map gQ).sum<=l+4*a:=by
 induction a generalizing l with
 |nil=>unfold aX;split<;>simp
 |cons c a ih=>
  have b:=kB c;unfold aX;split
  .split
   .have:=ih [];simp only[es,gz]at*;omega
   have:=ih [];simp only[es,gz,fx,gi]at*;omega
  have:=ih (l++foldR c);simp only[es,eb]at*;omega
theorem fF(s:Bs):((wordsR s).map gQ).sum<=4*s:=by
 have a:=qV (runesR s) [];have b:=gg s;unfold wordsR;simp only[gz]at a;omega
theorem rh(l:List Bs)(c:Nat):(l.map λs=>s.length+c).sum=(l.map gQ).sum+c*l.length:=by
 induction l with
 |nil=>simp
 |cons a l ih=>simp only[fx,gi,es,ih,Nat.mul_add];omega
theorem jf(l:List Bs):(joinR (l.map dl)).length<=(l.map gQ).sum+3*l:=by
 refine fr (iz _) ?_;rw[List.map_map,<- rh];induction l with
 |nil=>simp
 |cons a l ih=> have:=rO a;simp only[fx,gi,Function.comp]at*;omega
theorem gR(s x:Bs)(h:x∈wordsR s):x.length<=4*s:=by
 have b:=fF s;have:∀l:List Bs,x∈l->x<=(l.map gQ).sum:=by
  intro l;induction l with
  |nil=>intro h;cases h
  |cons a l ih=>
   intro h;simp only[fx,gi];rcases List.mem_cons.1 h with rfl|h
   .omega
   have:=ih h;omega
 exact fr (this _ h) b
theorem mi{w:er}{B e k n:Nat}{v:fp}{a:List fp}(h:w.ownsRow B e k v n a):w.drew.ownsRow B e k v n a:=h
theorem Ao{w:er}{B t:Nat}{v:fp}(h:Boxed w B t v):Boxed w.drew B t v:=h
theorem gI.at{w W b:er}{a:Nat}{M:Nat->Prop}{c:List Bs}(h:gI w a M c W)(d:Bw W b):gI w a M c b:=
 gI.stable w a w (dz _) M c W M b h (dj.of_below d λk e=>(h.lt k e).1)
theorem xV(w:er)(o:Obj)(x:fp)(t:TypeId):∀j u,[x][j]?=X u->((w.alloc o).alloc (cs #[x] t)).drew.cell? ((⟨w.heap.size+1,0,Y⟩:Addr).add j)=X u:=by
 have h:=cell_one_new (w.alloc o) x t;rw[e9]at h;exact h
theorem Ad{W b:er}(a:Bw W b)(o c:Obj):Bw W ((b.alloc o).alloc c).drew:=
 Below.drew ((a.alloc a.size _).alloc (by have:=a.size;simp;omega) _)
theorem oT{w W i w1:er}{a:Nat}{M:Nat->Prop}{f:List Bs}{z:Bs}{v c:fp}(h:gI w a M f W)(m:Bw W i)(I:w<=a)
 (F:Boxed i a 81 v)(u:i.ownsRow w 9 1 v f (f.map λs=>S s))(D:∀g,v.ownBlock=X g->¬M g)
 (E:w1.ownsRow w 9 1 c (f.length+1) ((f.map λs=>S s)++[S z]))(l:i.grownBy w1 v.ownBlock)(N:c.ownBlock=v.ownBlock∨c.ownBlock=X i.heap.size):
 Boxed w1 a 81 v/\KeepsOthers W (w1.setCell a c)/\nj M W (w1.setCell a c)/\gI w a M (f++[z]) (w1.setCell a c):=by
 have G:=h.b.size;have y:=m.size;have n:=h.lt;have A:=h.box;have x:Boxed w1 a 81 v:=F.kept l (F.not_row (by decide) u);have K:Bw w (w1.setCell a c):=h.b.trans (((m.mono G).grown l (fr G y) λj t=>(u.lt j t).1).setCell (p:=a) I c);refine⟨x,((KeepsOthers.of_below m).trans (KeepsOthers.of_grownBy l λj o t B=>?_)).trans (KeepsOthers.setCell _ _ _),λk d=>?_,⟨⟨_,x.set c,?_,λq r C=>?_⟩,K,λk d=>⟨?_,(n k d).2⟩,A⟩⟩
 .obtain⟨O,L⟩:=aK u t;rw[L]at B;cases B;rfl
 .have H:=(n k d).1;rw[gd _ _ _ _ (λ(e:k=a)=>A (e▸d)),l.block k (by omega) (λe=>D k e.symm d)];exact m.block k H
 .rw[eb,gn];exact E.kept (grownBy_setCell' w1 a c) (.inr (x.not_row (by decide) E).symm)
 .rcases N with e|e
  .exact D q (e▸r) C
  rw[e]at r;injection r with r
  have:=(n q C).1;omega
 refine Nat.lt_of_lt_of_le (n k d).1 (fr y ?_);rw[World.size_setCell];exact l.size
theorem yM(s:Bs)(skip:Nat)(hs:s.length<=1000000)(E:skip<=1000)(w:er):fb prog 231 #[S s,skip] w λe w'=>e=da (S (dG s skip))/\Bw w w':=by
 obtain⟨t,N⟩:=Qe (s.drop skip);have b4:t.length<=1000000:=by rw[<- N,e7];omega
 have C:Hid (dG s skip=joinR ((wordsR t).map dl)):=by unfold Hid dG;rw[N]
 have bB:max (skip:Int) 0=skip:=by omega
 have b1:min (skip:Int) (s.length:Int)=((min skip s.length:Nat):Int):=by omega
 have bw:min skip s.length<=s:=Nat.min_le_right _ _;have bs:s.drop (min skip s.length)=t:=by
  rw[<- N];rcases Nat.le_total skip s.length with h|h
  .rw[Nat.min_eq_left h]
  rw[Nat.min_eq_right h,g4 h,List.drop_length]
 generalize min skip s.length=m at*;have b8:=Z b1;have b5:(w.alloc (cs #[dc Y 0 0] 81)).heap.size=w+1:=by simp
 refine(callsIn_wide (n:=10)).1 ?_;refine callsIn_of_wp_marks func231 rfl trivial ?_ rfl;simp only[ntmps231,List.size_toArray,es,gz,Nat.reduceAdd,Nat.reduceSub,Array.replicate_succ,Array.replicate_zero,List.push_toArray,List.append_toArray,List.nil_append,List.cons_append];gi_wp2_with (refine⟨trivial,?_⟩;gi_at_call 185;refine(callsIn_wide.2 (jX t _)).mono ?_;rintro e w1⟨rfl,rfl⟩)
 have b3:=jZ 9 (by omega) (w.heap.size+1) t b4 ((w.alloc (cs #[dc Y 0 0] 81)).alloc (cs #[S t] 9)) (by rw[<- b5,g5];rfl);have bO:Boxed ((w.alloc (cs #[dc Y 0 0] 81)).alloc (cs #[S t] 9)) w 81 (dc Y 0 0):=(Boxed.new w 81 (dc Y 0 0)).alloc _;have a5:Bw w ((w.alloc (cs #[dc Y 0 0] 81)).alloc (cs #[S t] 9)):=((em _ w).alloc (dz _) _).alloc (by simp) _;generalize hW0:(w.alloc (cs #[dc Y 0 0] 81)).alloc (cs #[S t] 9)=W0 at*;have bb:W0.heap.size=w+2:=by rw[<- hW0];simp
 refine lN rfl (by decide) (gf:=247) (lb:= #[dk (X ⟨w.heap.size+1,0,Y⟩)]) ?hg trivial (enters_of func247 (by kernel_rfl) rfl) b3 (λk E=>E.elim) (em _ _) (λ_=>rfl)
  (λM j W=>gI w w M (j.map dl) W) (λ_ _ _ _=>False) (λM s aa M' ay h N=>gI.stable w _ _ a5.size M (s.map dl) aa M' ay h N) (λ_ _ _ _ _ _ h _=>h) (λM s aa h k E=>(h.lt k E).1) (λ_ _ _ _ h=>h.elim)
  ⟨⟨_,bO,hh _ _ _ _,λg hg=>by cases hg⟩,a5,λk E=>E.elim,λh=>h⟩
  ?a1 ?assign ?body ?done ?stop
 case hg=>simp[Act.eval]
 case assign=>
  intro l x W K f;gi_wp2
  exact f
 case done=>
  rintro D M xs W hD hS h f;obtain⟨v,O,F,_⟩:=h.o;have hc:=O.cell;have b9:=Z F;have HB:=Z h.b;obtain rfl:=hS;have bt:(joinR ((wordsR t).map dl)).length<=10000000:=by have:=jf (wordsR t);have:=fF t;have:=ef t;omega
  have c5:=ef t;have HJ:=Z (mD (w:=W) (B:=w.heap.size) (n:=((wordsR t).map dl).length) (v:=v) (l:=(wordsR t).map dl) F (by simp;omega) (by omega));clear h F;gi_wp2_with (refine⟨trivial,?_⟩;gi_at_call 244;refine(callsIn_wide.2 HJ.o).mono ?_;rintro e d⟨rfl,a⟩)
  have ac:d.heap[D]?=X (.deferred (X [])):=(a.block D (af f)).trans f;refine⟨by simp,.inl ⟨_,_,rfl,run_takeDeferred ac,?_⟩⟩;refine⟨_,results_tmp rfl _ _ _,by rw[C.o];rfl,(HB.o.trans (a.mono HB.o.size)).trans (belowK_b (w:=w) (dz _) d D _ _ (by have:=a5.size;omega) ac rfl rfl)⟩
 case stop=> rintro D c M j W _ _ h _;exact h.elim
 rintro l M j x W h hx;obtain⟨v,O,F,ad⟩:=h.o;have hc:=O.cell;obtain⟨i0,hi,au,av,ax⟩:=ht i9;have HB:=Z h.b;have C:=Z F;have V:=Z O;have a9:=Z ad;have Q:=Z h;have ao:=hx.1;have c9:x.length<=4000000:=by have:=gR t x (by obtain⟨z,hz⟩:=hx.2;rw[<- hz];simp);omega
 have c0:j.length<100000000:=by have:=hx.2.length_le;have:=ef t;simp at*;omega
 clear h F O ad hx;by_cases hd:ea x=true;rotate_left
 .have R:Hid (dl x=x):=by unfold Hid dl;rw[if_neg hd]
  have a7:ea x=false:=by simpa using hd
  have HD:Hid (∀W,fb prog 230 #[S x] W λe w'=>e=da (dq false)/\Bw W w'):=λW=>by have:=dX x W (by omega);unfold ea at a7;rw[a7]at this;exact this
  clear hd a7
  gi_wp2_with (first
   |(refine⟨trivial,?_⟩;gi_at_call 230;refine(CallsIn.inRound l (callsIn_wide.2 (HD _))).mono ?_;rintro e d⟨rfl,a⟩;have H:=Q.at a;have p:=Z (show Boxed d w 81 v from(a.block _ (af V.o)).trans V.o);have G:=Z (aj C.o λg hg=>a.block g (mh C.o g hg));have aS:=p.cell;have a0:=Z H.b;clear H)
   |(gi_at_builtin;(refine wpListIn_append_own_at _ rfl _ _ 81 rfl w 9 i0 (.string ⟨#[]⟩) 1 16 underlying81 hi au av ax rfl g1 v (hl dl j).length (hl (λs=>S s) (hl dl j)) ?_ ?_ d 1 1 [S x] ?_ ?_ ?_ ?_ ?_ ?_ ?_ ?_);(focus rfl);(focus exact G.o.alloc _);(focus rfl);(focus rfl);(focus exact cell_one_new _ _ _);(focus simp[gp]);(focus (unfold maxLen;rw[fs];omega));(focus (rw[fs];omega));(focus (have:=a0.o.size;simp;omega));intro v' w1 L a8 _ I;obtain⟨g',az,rfl⟩:=ownsRow_succ L;have a6:Bw W (d.alloc (cs #[S x] 9)):=a.alloc a.size _;obtain⟨P,A,u,r⟩:=oT (z:=dl x) Q.o a6 (dz _) (p.o.alloc _) (G.o.alloc _) a9.o (by rw[R.o];exact L) a8 I;rw[fs]at A u r;have aC:=P.cell;have aT:=P.frozen;have a4:=Z A;have a3:=Z u;have a2:=Z r;clear A u r I))
  exact⟨a4.o,a3.o,by have h:=a2.o;rw[<- hO,<- gn]at h;exact h⟩
 have c7:0<x.length:=List.length_pos_iff.2 ao;have al:(x.length:Int)-1=((x.length-1:Nat):Int):=by omega
 have b2:x.length-1<=x:=by omega
 obtain⟨q,hq⟩:=Qe (x.length-1);obtain⟨y,hy⟩:=Qe (stripR x);have ca:y.length<=x:=by rw[<- hy];exact nY x
 have HY:Hid ((x.take q).dropWhile (· ==48)++x.drop q=y):=by unfold Hid;rw[<- hy,<- hq,iY x ao]
 have R:Hid (dl x=(48+e5 (min y.length 99/10))::(48+e5 (min y.length 99%10))::y):=by unfold Hid dl;rw[if_pos hd,hy,UInt8.ofNat_add,UInt8.ofNat_add];rfl
 rw[hq]at al b2;have b0:¬9223372036854775807<(List.dropWhile (· ==48) (x.take q)).length+(x.drop q).length:=by have:=congrArg gQ HY.o;rw[eb]at this;omega
 have HD:Hid (∀W,fb prog 230 #[S x] W λe w'=>e=da (dq true)/\Bw W w'):=λW=>by have:=dX x W (by omega);unfold ea at hd;rw[hd]at this;exact this
 have b7:prog.follows .mixedOrders=true:=by kernel_rfl
 have b6:IntKind.i64.wrap (q:Int)=q:=fy _ (by omega);have c6:IntKind.i64.wrap ((x.length:Int)-1)=q:=by rw[al];exact b6
 have c3:(0:Int)<=q:=by omega
 have c2:(q:Int)<=(x.length:Int):=by omega
 have bv:¬9223372036854775807<(List.dropWhile (· ==48) (x.take q)).length+(x-q):=by rw[<- e7];exact b0
 skip;obtain⟨n,hn⟩:=Qe (min y.length 99);have bY:n<=99:=by omega
 have bA:min (y.length:Int) 99=(n:Int):=by omega
 have c1:Int.tdiv (n:Int) 10=((n/10:Nat):Int):=by rw[Int.tdiv_eq_ediv_of_nonneg (by omega)];omega
 have c4:Int.tmod (n:Int) 10=((n%10:Nat):Int):=by rw[Int.tmod_eq_emod_of_nonneg (by omega)];omega
 rw[hn]at R;have bk:n/10<=9:=by omega
 have bl:n%10<=9:=by omega
 generalize n/10=d1 at*;generalize n%10=d2 at*;clear hd hy hq hn;gi_wp2_with (refine⟨trivial,?_⟩;gi_at_call 230;refine(CallsIn.inRound l (callsIn_wide.2 (HD _))).mono ?_;rintro e d⟨rfl,a⟩;have H:=Q.at a;have p:=Z (show Boxed d w 81 v from(a.block _ (af V.o)).trans V.o);have G:=Z (aj C.o λg hg=>a.block g (mh C.o g hg));have aS:=p.cell;have bc:∀o,(d.alloc o).cell? w=X v:=λo=>(p.alloc o).cell;have bd:∀o,(d.alloc o).drew.cell? w=X v:=λo=>(p.alloc o).cell;have a0:=Z H.b;clear H)
 have T:True:=trivial;refine ns (λ_=>True) 12 b7 (by decide) (by kernel_rfl) (λ⟨_,_,h⟩=>h) ?_;refine tk 0 ?_ rfl T ?_ ?_;rotate_left;intro w' h;go_simp;rfl;refine tk 1 ?_ rfl T ?_ ?_;rotate_left;intro w' h;go_simp;rfl;refine tk 2 ?_ rfl T ?_ ?_;rotate_left;intro w' h;go_simp;rfl;refine tk 3 ?_ rfl T ?_ ?_;rotate_left;intro w' h;go_simp;rfl;refine tk 4 ?_ rfl T ?_ ?_;rotate_left;intro w' h;go_simp;rfl;refine tk 6 ?_ rfl T ?_ ?_;rotate_left;intro w' h;go_simp;rfl;refine tk 7 ?_ rfl T ?_ ?_;rotate_left;intro w' h;go_simp;rfl;refine tk 8 ?_ rfl T ?_ ?_;rotate_left;intro w' h;go_simp;rfl;refine tk 9 ?_ rfl T ?_ ?_;rotate_left;intro w' h;go_simp;rfl;refine tk 10 ?_ rfl T ?_ ?_;rotate_left;intro w' h;go_simp;rfl;refine Dp 5 λK f=>?_;go_simp;go_at_call 282;refine(pn _ _).mono ?_;rintro e w3⟨rfl,rfl⟩;refine f _ _ (λ_=>T) ?_;clear f K;refine bZ (i:=11) (v:=S y) rfl (by kernel_rfl) (by kernel_rfl) (by kernel_rfl) (by kernel_rfl) (by decide) (λ_ _ _ h=>h) T (Or.inl ⟨by rfl,?_⟩) ?_;focus (intro w' h;go_simp;exact HY.o)
 refine Dp 12 λK f=>?_;go_simp;refine f _ _ (λ_=>T) ?_;refine dN ?_;gi_wp2_with (gi_at_builtin;(refine wpListIn_append_own_at _ rfl _ _ 81 rfl w 9 i0 (.string ⟨#[]⟩) 1 16 underlying81 hi au av ax rfl g1 v (hl dl j).length (hl (λs=>S s) (hl dl j)) ?_ ?_ ⟨d.heap.size+1,0,Y⟩ 1 1 [gq {data:=((48+e5 d1)::(48+e5 d2)::y).toArray}] ?_ ?_ ?_ ?_ ?_ ?_ ?_ ?_);(focus rfl);(focus exact mi ((G.o.alloc _).alloc _));(focus rfl);(focus rfl);(focus exact xV _ _ _ _);(focus simp[gp]);(focus (unfold maxLen;rw[fs];omega));(focus (rw[fs];omega));(focus (have:=a0.o.size;simp;omega));intro v' w1 L a8 _ I;obtain⟨g',az,rfl⟩:=ownsRow_succ L;have a6:=Ad a (cs #[g7 IntKind.u8 (48+d1),g7 IntKind.u8 (48+d2)] 5) (cs #[gq {data:=((48+e5 d1)::(48+e5 d2)::y).toArray}] 9);obtain⟨P,A,u,r⟩:=oT (z:=dl x) Q.o a6 (dz _) (Ao ((p.o.alloc _).alloc _)) (mi ((G.o.alloc _).alloc _)) a9.o (by rw[R.o];exact L) a8 I;rw[fs]at A u r;have aC:=P.cell;have aT:=P.frozen;have a4:=Z A;have a3:=Z u;have a2:=Z r;clear A u r I)
 exact⟨a4.o,a3.o,by have h:=a2.o;rw[<- hO,<- gn]at h;exact h⟩
def ixGo(a:Bs):List ag->Nat->Option Nat
 |[],_=>Y
 |f::l,i=>if f.tag=a then X i else ixGo a l (i+1)
def ixI:Option Nat->Int
 |some k=>k
 |none=> -1
theorem xp(a:Bs)(l:List ag)(i:Nat):(∃k,ixGo a l i=X k/\∃h:k-i<l,i<=k/\l.find? (λf=>f.tag==a)=X l[k-i])∨(ixGo a l i=Y/\l.find? (λf=>f.tag==a)=Y):=by
 induction l generalizing i with
 |nil=>exact .inr ⟨rfl,rfl⟩
 |cons f l ih=>
  unfold ixGo;by_cases h:f.tag=a
  .rw[if_pos h];exact .inl ⟨i,rfl,by simp,dz _,by simp[h]⟩
  rw[if_neg h,List.find?_cons_of_neg (by simpa using h)];rcases ih (i+1)with⟨k,c,d,g,b⟩|⟨c,b⟩
  .have e:k-i=k-(i+1)+1:=by omega
   refine .inl ⟨k,c,by simp only[es];omega,by omega,?_⟩;rw[b];simp only[e,List.getElem_cons_succ]
  exact .inr ⟨c,b⟩
theorem sr(b:Bs)(a:List ag):(∃k,ixGo b a 0=X k/\∃h:k<a,firstF a b=X a[k])∨(ixGo b a 0=Y/\firstF a b=Y):=by
 rcases xp b a 0 with⟨k,d,e,_,c⟩|⟨d,c⟩
 .exact .inl ⟨k,d,e,c⟩
 exact .inr ⟨d,c⟩
theorem oM{a:List ag}{k:Nat}(h:k<a):a.drop k=a[k]::a.drop (k+1):=gP h
def Cy(g p:Nat)(b:Bs):Prop:=∀(a i x:Bs)(d:fp)(w:er),w.cell? p=X (S b)->
 fb prog g #[.agg #[S a,S i,S x,d],.pointer p] w λe w'=>e=da (dq (decide (a=b)))/\Bw w w'
theorem wl(p:Nat)(c:Bs):Cy 245 p c:=by
 intro a i x d w b;have e:=bE b;have f:∀o,(w.alloc o).cell? p=X (S c):=λo=>by rw[bf _ _ _ _ e];exact b
 go_enter func245,ntmps245;go_wp2_with fail;go_ret;exact⟨am (by rw[Bool.eq_iff_iff];simp),(em _ w).alloc (dz _) _⟩
theorem uJ(p:Nat)(c:Bs):Cy 242 p c:=by
 intro a i x d w b;have e:=bE b;have f:∀o,(w.alloc o).cell? p=X (S c):=λo=>by rw[bf _ _ _ _ e];exact b
 go_enter func242,ntmps242;go_wp2_with fail;go_ret;exact⟨am (by rw[Bool.eq_iff_iff];simp),(em _ w).alloc (dz _) _⟩
theorem nG(p:Nat)(f:Bs)(v:fp)(c:List ag)(w:er)(o:ah 0 w w v c)(hn:c.length<=1000000)(n:w.cell? p=some (S f)):
 fb prog 241 #[v,.func (.func 245) #[] #[.pointer p]] w λe w'=>e=da (ixI (ixGo f c 0))/\Bw w w':=by
 have t:=Z o;have s:=Z n;obtain⟨a,u,rfl⟩:=o.shape;have x:=bE n;clear o n;go_enter func241,ntmps241;go_wp2_with fail;go_loopw [5,8] (λ_j i wr=>∃(k:Nat),k<=c/\i=J U k/\Hid (ixGo f c 0=ixGo f (c.drop k) k)/\Bw w wr) (λ_ i _=>c-(intOf i).toNat)
 exact⟨0,gb _,rfl,rfl,em _ _⟩;obtain⟨k,D,rfl,l,g⟩:=hrel;by_cases hlt:k<c;rotate_left
 .go_wp2_with fail;go_ret;refine⟨aI ?_,g⟩;rw[l.o,g4 (by omega)];rfl
 have r:ah 0 w wr (ha a c u) c:=t.kept (aW g (dz _));have q:wr.cell? p=some (S f):=((aq g).1 p 0 x).trans s.o;obtain⟨b,E,B,d,y,C,_,z,c1,c2,A,_⟩:=r.field k hlt;cases y;have h:=Z (wl p f c[k].tag c[k].ind c[k].data d wr q);have j:Hid (ixGo f (c.drop k) k=if c[k].tag=f then some k else ixGo f (c.drop (k+1)) (k+1)):=by unfold Hid;rw[oM hlt];rfl
 clear r q;generalize c[k].tag=T at*;generalize c[k].ind=I at*;generalize c[k].data=X at*;by_cases hT:T=f
 .rw[if_pos hT]at j;rw[show decide (T=f)=true from decide_eq_true hT]at h;clear hT;go_wp2_with (go_at_call 245;(refine dy h.o ?_;rintro e w'⟨rfl,m⟩))
  go_ret;exact⟨aI (by rw[l.o,j.o];rfl),btr g m g.size⟩
 rw[if_neg hT]at j;rw[show decide (T=f)=false from decide_eq_false hT]at h;clear hT;go_wp2_with (go_at_call 245;(refine dy h.o ?_;rintro e w'⟨rfl,m⟩))
 go_roundw
 case rel=>exact⟨k+1,by omega,by go_num,by unfold Hid;rw[l.o,j.o],btr g m g.size⟩
 simp[intOf];omega
theorem nH(p:Nat)(f:Bs)(v:fp)(c:List ag)(w:er)(o:ah 0 w w v c)(hn:c.length<=1000000)(n:w.cell? p=some (S f)):
 fb prog 241 #[v,.func (.func 242) #[] #[.pointer p]] w λe w'=>e=da (ixI (ixGo f c 0))/\Bw w w':=by
 have t:=Z o;have s:=Z n;obtain⟨a,u,rfl⟩:=o.shape;have x:=bE n;clear o n;go_enter func241,ntmps241;go_wp2_with fail;go_loopw [5,8] (λ_j i wr=>∃(k:Nat),k<=c/\i=J U k/\Hid (ixGo f c 0=ixGo f (c.drop k) k)/\Bw w wr) (λ_ i _=>c-(intOf i).toNat)
 exact⟨0,gb _,rfl,rfl,em _ _⟩;obtain⟨k,D,rfl,l,g⟩:=hrel;by_cases hlt:k<c;rotate_left
 .go_wp2_with fail;go_ret;refine⟨aI ?_,g⟩;rw[l.o,g4 (by omega)];rfl
 have r:ah 0 w wr (ha a c u) c:=t.kept (aW g (dz _));have q:wr.cell? p=some (S f):=((aq g).1 p 0 x).trans s.o;obtain⟨b,E,B,d,y,C,_,z,c1,c2,A,_⟩:=r.field k hlt;cases y;have h:=Z (uJ p f c[k].tag c[k].ind c[k].data d wr q);have j:Hid (ixGo f (c.drop k) k=if c[k].tag=f then some k else ixGo f (c.drop (k+1)) (k+1)):=by unfold Hid;rw[oM hlt];rfl
 clear r q;generalize c[k].tag=T at*;generalize c[k].ind=I at*;generalize c[k].data=X at*;by_cases hT:T=f
 .rw[if_pos hT]at j;rw[show decide (T=f)=true from decide_eq_true hT]at h;clear hT;go_wp2_with (go_at_call 242;(refine dy h.o ?_;rintro e w'⟨rfl,m⟩))
  go_ret;exact⟨aI (by rw[l.o,j.o];rfl),btr g m g.size⟩
 rw[if_neg hT]at j;rw[show decide (T=f)=false from decide_eq_false hT]at h;clear hT;go_wp2_with (go_at_call 242;(refine dy h.o ?_;rintro e w'⟨rfl,m⟩))
 go_roundw
 case rel=>exact⟨k+1,by omega,by go_num,by unfold Hid;rw[l.o,j.o],btr g m g.size⟩
 simp[intOf];omega
def ba(b:List cH)(a:Bs):List Bs:=(b.filter λs=>a.contains s.code).map cH.text
theorem iU(a:List cH)(b:Bs)(k:Nat)(h:k<a):ba (a.take (k+1)) b=ba (a.take k) b++if b.contains a[k].code then[a[k].text]else[]:=by
 unfold ba;rw[hj h,hf,gn];congr 1
 generalize a[k]=x;by_cases hc:b.contains x.code=true
 .rw[if_pos hc];simp only[fl,hc,if_true,List.filter_nil,fx,List.map_nil]
 rw[if_neg hc];simp only[fl,hc,List.filter_nil];rfl
theorem eX(a:List cH)(b:Bs):(ba a b).length<=a:=by
 unfold ba;rw[fs];exact List.length_filter_le _ _
theorem lX(a:List cH)(b:Bs)(N:Nat)(h:∀s∈a,s.text<=N):(joinR (ba a b)).length<=a*(N+1):=by
 refine fr (iz _) ?_;unfold ba;induction a with
 |nil=>simp
 |cons s a ih=>
  have d:=h s he;have e:=ih λx c=>h x (g9 _ c);rw[fl];split
  .simp only[fx,gi,es,Nat.succ_mul];omega
  simp only[es,Nat.succ_mul];omega
theorem iE(w:er)(o:Obj)(x:fp)(t:TypeId):∀j u,[x][j]?=X u->((w.alloc o).alloc (cs #[x] t)).cell? ((⟨w.heap.size+1,0,Y⟩:Addr).add j)=X u:=by
 have h:=cell_one_new (w.alloc o) x t;rw[e9]at h;exact h
theorem rb(a i x:Bs)(d:fp)(f:List cH)(c:UInt8)(w:er)(y:aE 0 w w d f)(hn:f.length<=1000000)(t:∀s∈f,s.text.length<=1000000):
 fb prog 183 #[.agg #[S a,S i,S x,d],J ds c] w λe w'=>e=da (S (textS f [c]))/\Bw w w':=by
 have M:=Z y;have I:Hid ((joinR (ba f [c])).length<=140737488355328):=by have h1:=lX f [c] 1000000 t;have:f.length*(1000000+1)<=1000000*1000001:=Nat.mul_le_mul hn (dz _);unfold Hid;omega
 obtain⟨O,P,rfl,_⟩:=y;clear t;obtain⟨W,r,A,n,B⟩:=ht i9;have E:=Z r;have F:=Z A;have G:=Z n;have H:=Z B;clear r A n B;go_enter func183,ntmps183;go_wp2_with fail;go_loopw [5,11] (λv j wr=>∃(k:Nat),k<=f/\j=J U k/\Hid (wr.ownsRow (w.heap.size+1) 9 1 v (ba (f.take k) [c]).length ((ba (f.take k) [c]).map λs=>S s))/\Bw w wr/\w.heap.size+1<=wr) (λ_ j _=>f-(intOf j).toNat)
 exact⟨0,gb _,rfl,hh _ _ _ _,(em _ w).alloc (dz _) _,by simp⟩;obtain⟨k,hk,rfl,l,g,hz⟩:=hrel;by_cases hlt:k<f;rotate_left
 .have N:Hid (ba (f.take k) [c]=ba f [c]):=by unfold Hid;rw[g3 (by omega)]
  rw[N.o]at l;have R:=eX f [c];have D:=Z (mD (w:=wr) l.o (by omega) I.o);go_wp2_with (go_at_call 244;(refine dy D.o ?_;rintro e w2⟨rfl,q⟩))
  go_ret;exact⟨rfl,btr g q g.size⟩
 have z:aE 0 w wr (ha O f P) f:=M.kept (aW g (dz _));obtain⟨b,a3,a0,V,p,q,c0,c1⟩:=z.sub k hlt;cases V;have m:=Z (iU f [c] k hlt);clear z;generalize f[k].code=C at*;generalize f[k].text=T at*;have R:(ba (f.take k) [c]).length<=1000000:=by have:=eX (f.take k) [c];rw[e6]at this;omega
 generalize ba (f.take k) [c]=L at*;have a2:b<wr:=by omega
 by_cases hC:C=c
 .subst hC;rw[if_pos (by simp)]at m;go_wp2_with (at_builtin;(refine gO _ rfl _ _ 81 rfl (w.heap.size+1) 9 W (.string ⟨#[]⟩) 1 16 underlying81 E.o F.o G.o H.o rfl g1 u5 L.length (L.map λs=>S s) ?_ ?_ ⟨wr.heap.size+1,0,Y⟩ 1 1 [S T] ?_ ?_ ?_ ?_ ?_ ?_ ?_ ?_);(focus rfl);(focus exact((l.o.alloc _).alloc _));(focus rfl);(focus rfl);(focus exact iE _ _ _ _);(focus simp[gp]);(focus (unfold maxLen;omega));(focus omega);(focus (simp;omega));intro v' w1 u o _ _;have p:Bw w w1:=((g.alloc g.size _).alloc (by have:=g.size;simp;omega) _).grown o (by have:=g.size;simp;omega) (λj Q=>by have:=(l.o.lt j Q).1;omega);have n:=o.size;have K:=Z u;clear u o)
  go_roundw;exact⟨k+1,by omega,by go_num,by unfold Hid;rw[m.o,eb,gn];exact K.o,p,by simp at n;omega⟩;simp[intOf];omega
 rw[if_neg (by simpa using hC),ho]at m;have a1:((C.toNat:Int)==(c.toNat:Int))=false:=by have:C.toNat≠c:=λh=>hC (UInt8.toNat_inj.1 h);simp;omega
 clear hC;go_wp2_with fail;go_roundw
 case rel=>exact⟨k+1,by omega,by go_num,by unfold Hid;rw[m.o];exact l.o.alloc _,g.alloc g.size _,by simp;omega⟩
 simp[intOf];omega
theorem fk{lo a:Nat}{w w':er}{v:fp}{b:List ag}(h:ah lo a w v b)(e:a<=w)(c:Bw w w'):ah lo a w' v b:=h.kept λk _ d=>c.block k (by omega)
theorem pw{lo a:Nat}{w w':er}{v:fp}{b:List cH}(h:aE lo a w v b)(e:a<=w)(c:Bw w w'):aE lo a w' v b:=h.kept λk _ d=>c.block k (by omega)
def zeroF:ag:=⟨[],[],[],[]⟩
def gM(a:Nat)(w':er)(f:Option ag)(v:fp):Prop:=∃d,v=.agg #[S (f.getD zeroF).tag,S (f.getD zeroF).ind,S (f.getD zeroF).data,d]/\aE 0 a w' d (f.getD zeroF).subs
theorem gM.up{w w':er}{f:Option ag}{v:fp}(h:gM w w f v)(e:Bw w w'):gM w w' f v:=by
 obtain⟨d,a,b⟩:=h;exact⟨d,a,b.kept λk _ c=>e.block k c⟩
theorem iX{f:ag}(h:(fieldBytes f).length<=1000000){q:cH}(a:q∈f.subs):q.text.length<=1000000:=by
 have:∀l:List cH,q∈l->q.text<=(l.flatMap aV).length:=by
  intro l;induction l with
  |nil=>intro h;cases h
  |cons s l ih=>
   intro h;rw[List.flatMap_cons,eb];rcases List.mem_cons.1 h with rfl|h
   .simp only[aV,es];omega
   have:=ih h;omega
 have:=this _ a;simp only[fieldBytes,eb]at h;omega
theorem JNB{w a b:er}(c:Bw a b)(d:a.heap.size=w+3):hV w a b:=c.mono (by omega)
theorem sR(a:Bs)(c:UInt8):a.contains c=decide (0<=g2 a c):=Lib.contains_iff_indexByte a c
theorem fI{fn:Func}{p u:Tmp}{c:TypeId}(h:fn.results= #[.tmp u,.cell p c])(b:Array fp)(P:Program)(w:er):
 (results fn b).run P w=
  ((asAddr (b.getD p undef)).run P w).andThen λa d=>((loadVar c a).run P d).andThen λv e=>.ok (.tuple #[b.getD u undef,v]) e:=by
 simp only[results,h];simp[Sem.run_bind,Result.andThen]
theorem q9(k l:UInt8)(x:fp)(c:List ag)(y f:Bs)(w:er)(hs:ah 0 w w x c)(ac:br c):
 fb prog 184 #[.agg #[J ds k,J ds l,x],S y,S f] w λe w'=>(∃v,e=da (.tuple #[S (textF (firstF c y) f),v])/\gM w w' (firstF c y) v)/\Bw w w':=by
 obtain⟨m,G⟩:=Qe (((w.alloc (cs #[J ds k,J ds l,x] 62)).alloc (cs #[S y] 9)).alloc (cs #[S [],S [],S [],dc Y 0 0] 123));have bl:m.heap.size=w+3:=by rw[<- G];simp
 have Q:Bw w m:=by rw[<- G];exact(((em _ w).alloc (dz _) _).alloc (by simp) _).alloc (by simp;omega) _
 have ax:ah 0 m m x c:=(fk hs (dz _) Q).mono (dz _) (by omega);have hA:m.heap[w.heap.size]?=X (cs #[J ds k,J ds l,x] 62 (0,0)):=by rw[<- G,eQ _ _ _ (by simp;omega),eQ _ _ _ (by simp)];exact eg w _
 have hB:m.heap[w.heap.size+1]?=X (cs #[S y] 9 (0,0)):=by rw[<- G,eQ _ _ _ (by simp)];have:=eg (w.alloc (cs #[J ds k,J ds l,x] 62)) (cs #[S y] 9);rwa[e9]at this
 have hC:m.heap[w.heap.size+1+1]?=X (cs #[S [],S [],S [],dc Y 0 0] 123 (0,0)):=by rw[<- G];have:=eg ((w.alloc (cs #[J ds k,J ds l,x] 62)).alloc (cs #[S y] 9)) (cs #[S [],S [],S [],dc Y 0 0] 123);rwa[e9,e9]at this
 have a4:=Z (nG (w.heap.size+1) y x c m ax ac.1 (by rw[ab hB];rfl));have a2:m.cell? ⟨w,2,Y⟩=X x:=by rw[ab hA];rfl
 have bd:=hs;have HF:=Z hs;have HA:=Z hA;have HC:=Z hC;have N:=Z Q;have HW:=Z G;clear hA hB hC ax hs Q;rcases sr y c with⟨n,a1,hn,a0⟩|⟨a1,a0⟩;rotate_left
 .rw[a1,show ixI Y= -1 from rfl]at a4;rw[a0];clear a1 a0;go_enter func184,ntmps184;go_wp2_with (go_at_call 241;(refine dy a4.o ?_;rintro e i⟨rfl,u⟩;have o:i.heap[w.heap.size+1+1]?=X (cs #[S [],S [],S [],dc Y 0 0] 123 (0,0)):=(u.block _ (by omega)).trans HC.o;have z0:=ae o 0;have z1:=ae o 1;have z2:=ae o 2;have z3:=ae o 3;have y0:i.cell? ⟨w.heap.size+1+1,0,Y⟩=X (S []):=(by rw[ab o];rfl);have y1:i.cell? ⟨w.heap.size+1+1,1,Y⟩=X (S []):=(by rw[ab o];rfl);have y2:i.cell? ⟨w.heap.size+1+1,2,Y⟩=X (S []):=(by rw[ab o];rfl);have y3:i.cell? ⟨w.heap.size+1+1,3,Y⟩=X (dc Y 0 0):=(by rw[ab o];rfl);have bs:=Z o;clear o))
  refine gx (v:=.tuple #[S [],.agg #[S [],S [],S [],dc Y 0 0]]) (by rw[fI rfl];go_simp) rfl ?_;have r:Bw w i:=N.trans (u.mono N.size);exact⟨⟨_,rfl,dc Y 0 0,rfl,_,_,rfl,λh=>absurd rfl h⟩,(((r.setCell (p:=⟨w.heap.size+1+1,0,Y⟩) (by simp;omega) _).setCell (p:=⟨w.heap.size+1+1,1,Y⟩) (by simp;omega) _).setCell (p:=⟨w.heap.size+1+1,2,Y⟩) (by simp;omega) _).setCell (p:=⟨w.heap.size+1+1,3,Y⟩) (by simp;omega) _⟩
 rw[a1,show ixI (X n)=n from rfl]at a4;rw[a0];obtain⟨b,g,a5,d,hv,_,R,c0,c1,c2,c3,a7⟩:=bd.field n hn;subst hv;have aa:=List.getElem_mem hn;have HG:Hid (gM w w (X c[n]) (.agg #[S c[n].tag,S c[n].ind,S c[n].data,d])):=⟨d,rfl,a7⟩;have bk:c[n].subs.length<=1000000:=fr (cr _) (ac.2 _ aa);have HJ:Hid ((joinR (ba c[n].subs f)).length<=140737488355328):=by have h1:=lX c[n].subs f 1000000 (λq hq=>iX (ac.2 _ aa) hq);have:c[n].subs.length*(1000000+1)<=1000000*1000001:=Nat.mul_le_mul bk (dz _);unfold Hid;omega
 obtain⟨A,B,rfl,_⟩:=id a7;have b5:=Z a7;have b7:Hid (textF (X c[n]) f=textS c[n].subs f):=rfl;generalize c[n].subs=ss at*;generalize textF (X c[n]) f=RES at*;generalize c[n].tag=T at*;generalize c[n].ind=I at*;generalize c[n].data=D at*;generalize c[n]=FF at*;have bA:(n:Int)<(c.length:Int):=by omega
 clear a1 a0 aa a7;obtain⟨i0,hi,aS,aT,al⟩:=ht i9;have HI:=Z hi;have b1:=Z aS;have b2:=Z aT;have b3:=Z al;clear hi aS aT al;have bv:=HA.o;go_enter func184,ntmps184;go_wp2_with (go_at_call 241;(refine dy a4.o ?_;rintro e i⟨rfl,u⟩;have a3:i.cell? ⟨w,2,Y⟩=X (dc (X ⟨b,g,Y⟩) c a5):=(((aq u).1 w 2 (by omega)).trans a2);have d3:i.cell? ⟨b,g+n*4+3,Y⟩=X (dc A ss B):=((aq u).1 b _ (by omega)).trans (((aq N.o).1 b _ R).trans c3)))
 have b6:Hid (aE 0 w i (ha A ss B) ss):=pw (pw b5.o (dz _) N.o) (by omega) u;have al:=u.size;have b4:=Z u;clear d3;go_loopw [9,26] (λv j wr=>∃(q:Nat),q<=ss/\j=J U q/\Hid (wr.ownsRow (w.heap.size+3) 9 1 v (ba (ss.take q) f).length ((ba (ss.take q) f).map λs=>S s))/\hV (w.heap.size+3) i wr/\w.heap.size+3<=wr) (λ_ j _=>ss-(intOf j).toNat)
 case atStart=>exact⟨0,gb _,rfl,hh _ _ _ _,em _ _,by omega⟩
 obtain⟨q,hq,rfl,O,H,hz⟩:=hrel;by_cases hlt:q<ss
 .have aC:aE 0 w wr (ha A ss B) ss:=b6.o.kept (aW H (by omega));obtain⟨b',bB,bt,hv,_,bw,e0,e1⟩:=aC.sub q hlt;cases hv;have HN:=Z (iU ss f q hlt);have b8:(ba (ss.take q) f).length<=1000000:=by have:=eX (ss.take q) f;rw[e6]at this;omega
  have au:Hid (∀W,fb prog 246 #[S f,J ds ss[q].code.toNat] W λe w'=>e=da (g2 f ss[q].code)/\W=w'):=λW=>(strings_IndexByte ⟨f.toArray⟩ ss[q].code.toNat W).mono λe w' h=>⟨by rw[h.1];simp,h.2.symm⟩;have M:=sR f ss[q].code;clear aC;generalize ss[q].code=C at*;generalize ss[q].text=TT at*;generalize g2 f C=ixc at*;generalize f.contains C=cc at*;generalize ba (ss.take q) f=L at*;have V:b'<wr:=by omega
  cases cc
  .rw[if_neg (by simp),ho]at HN;have bc:¬(0<=ixc):=λh=>by rw[decide_eq_true h]at M;cases M
   clear M;go_wp2_with (go_at_call 246;(refine dy (au.o _) ?_;rintro e w3⟨rfl,rfl⟩))
   go_roundw;exact⟨q+1,by omega,by go_num,by unfold Hid;rw[HN.o];exact O.o.alloc _,H.alloc (by omega) _,by simp;omega⟩;simp[intOf];omega
  rw[if_pos rfl]at HN;have bc:0<=ixc:=by
   by_cases h:0<=ixc
   .exact h
   rw[decide_eq_false h]at M;cases M
  clear M
  go_wp2_with (first
   |(go_at_call 246;((with_reducible refine dy (au.o _) ?_);rintro e w3⟨rfl,rfl⟩))
   |(at_builtin;(refine gO _ rfl _ _ 81 rfl (w.heap.size+3) 9 i0 (.string ⟨#[]⟩) 1 16 underlying81 HI.o b1.o b2.o b3.o rfl g1 u9 L.length (L.map λs=>S s) ?_ ?_ ⟨wr.heap.size+1,0,Y⟩ 1 1 [S TT] ?_ ?_ ?_ ?_ ?_ ?_ ?_ ?_);(focus rfl);(focus exact((O.o.alloc _).alloc _));(focus rfl);(focus rfl);(focus exact iE _ _ _ _);(focus simp[gp]);(focus (unfold maxLen;omega));(focus omega);(focus (simp;omega));intro v' w1 az a9 _ _;have Q:hV (w.heap.size+3) i w1:=((H.alloc (by omega) _).alloc (by simp;omega) _).grown a9 (by simp;omega) (λj ej=>(O.o.lt j ej).1);have b0:=a9.size;have HO:=Z az;clear az a9))
  go_roundw
  case rel=>exact⟨q+1,by omega,by go_num,by unfold Hid;rw[HN.o,eb,gn];exact HO.o,Q,by simp at b0;omega⟩
  simp[intOf];omega
 have HT:Hid (ba (ss.take q) f=ba ss f):=by unfold Hid;rw[g3 (by omega)]
 rw[HT.o]at O;have b8:=eX ss f;have HF:=Z (mD (w:=wr.drew) (mi O.o) (by omega) HJ.o);have b0:=hz;have r:Bw w wr:=N.o.trans ((JNB b4.o bl).trans (H.mono (by omega)));have ao:=Z r;have a8:∀W,Bw wr W->(W.cell? ⟨w,2,Y⟩=X (dc (X ⟨b,g,Y⟩) c a5)/\W.cell? ⟨b,g+n*4,Y⟩=X (S T)/\W.cell? ⟨b,g+n*4+1,Y⟩=X (S I)/\W.cell? ⟨b,g+n*4+2,Y⟩=X (S D)/\W.cell? ⟨b,g+n*4+3,Y⟩=X (dc A ss B)):=λW P=>by
  have V:b<wr:=by omega
  have e2:wr.cell? ⟨w,2,Y⟩=X (dc (X ⟨b,g,Y⟩) c a5):=by rw[World.cell?_of_block (w:=i) (a:=⟨w,2,Y⟩) (H.block _ (by show w.heap.size<_;omega))];exact a3
  refine⟨((aq P).1 _ _ (by omega)).trans e2,?_,?_,?_,?_⟩
  .exact((aq P).1 _ _ V).trans (((aq r).1 _ _ R).trans c0)
  .exact((aq P).1 _ _ V).trans (((aq r).1 _ _ R).trans c1)
  .exact((aq P).1 _ _ V).trans (((aq r).1 _ _ R).trans c2)
  exact((aq P).1 _ _ V).trans (((aq r).1 _ _ R).trans c3)
 have F:=a8 wr.drew ((em _ wr).drew);have av:=Z a8;clear a8 r;go_wp2_with fail;refine wT (λW=>(W.cell? ⟨w,2,Y⟩=X (dc (X ⟨b,g,Y⟩) c a5)/\W.cell? ⟨b,g+n*4,Y⟩=X (S T)/\W.cell? ⟨b,g+n*4+1,Y⟩=X (S I)/\W.cell? ⟨b,g+n*4+2,Y⟩=X (S D)/\W.cell? ⟨b,g+n*4+3,Y⟩=X (dc A ss B))) 8 ?_;refine tk 0 ?_ rfl F ?_ ?_;rotate_left;intro w' h;go_simp;rfl;refine tk 2 ?_ rfl F ?_ ?_;rotate_left;intro w' h;go_simp;rfl;refine tk 3 ?_ rfl F ?_ ?_;rotate_left;rintro w'⟨h0,h1,h2,h3,h4⟩;go_simp;rfl;refine tk 4 ?_ rfl F ?_ ?_;rotate_left;intro w' h;go_simp;rfl;refine tk 5 ?_ rfl F ?_ ?_;rotate_left;intro w' h;go_simp;rfl;refine tk 6 ?_ rfl F ?_ ?_;rotate_left;rintro w'⟨h0,h1,h2,h3,h4⟩;go_simp;rfl;refine Dp 1 λK z=>?_;go_simp;go_at_call 244;refine HF.mono ?_;rintro e E⟨rfl,bb⟩;have a6:Bw wr E:=(em _ wr).drew.trans bb;refine z _ _ (λ_=>av _ a6) ?_;clear z K;have t:E.heap[w.heap.size+1+1]?=X (cs #[S [],S [],S [],dc Y 0 0] 123 (0,0)):=(a6.block _ (by omega)).trans ((H.block _ (by omega)).trans ((u.block _ (by omega)).trans HC.o));have z0:=ae t 0;have z1:=ae t 1;have z2:=ae t 2;have z3:=ae t 3;have y0:E.cell? ⟨w.heap.size+1+1,0,Y⟩=X (S []):=(by rw[ab t];rfl);have y1:E.cell? ⟨w.heap.size+1+1,1,Y⟩=X (S []):=(by rw[ab t];rfl);have y2:E.cell? ⟨w.heap.size+1+1,2,Y⟩=X (S []):=(by rw[ab t];rfl);have y3:E.cell? ⟨w.heap.size+1+1,3,Y⟩=X (dc Y 0 0):=(by rw[ab t];rfl);have b9:=av _ a6;clear t;refine Ds 7 b9 ?_;refine Dl 8 ?_;go_wp2;refine gx (v:=.tuple #[S (joinR (ba ss f)),.agg #[S T,S I,S D,dc A ss B]]) (by rw[fI rfl];go_simp) rfl ?_;have r:Bw w E:=ao.trans (a6.mono ao.size);have ay:=(((r.setCell (p:=⟨w.heap.size+1+1,0,Y⟩) (by simp;omega) (S T)).setCell (p:=⟨w.heap.size+1+1,1,Y⟩) (by simp;omega) (S I)).setCell (p:=⟨w.heap.size+1+1,2,Y⟩) (by simp;omega) (S D)).setCell (p:=⟨w.heap.size+1+1,3,Y⟩) (by simp;omega) (dc A ss B);exact⟨⟨_,by rw[b7.o];rfl,gM.up HG.o ay⟩,ay⟩
def skI(a:Bs):Nat:=match a with
 |_::c::_=>if digitB c then c.toNat-48 else 0
 |_=>0
theorem lw(a c:UInt8)(r:Bs):skI (a::c::r)=if digitB c then c.toNat-48 else 0:=rfl
theorem rz(f:Option ag):yP f=skI (f.getD zeroF).ind:=by
 cases f with
 |none=>rfl
 |some f=> obtain⟨t,i,d,s⟩:=f;rcases i with _|⟨a,_|⟨c,r⟩⟩<;>rfl
theorem nX(f:ag)(a:Bs):(textS f.subs a).length<=(fieldBytes f).length:=by
 have c:(textS f.subs a).length<=((ba f.subs a).map λs=>s.length+1).sum:=iz _;have b:∀l:List cH,((ba l a).map λs=>s.length+1).sum<=(l.flatMap aV).length:=by
  intro l;induction l with
  |nil=>simp[ba]
  |cons s l ih=>
   rw[List.flatMap_cons,eb];unfold ba at*;rw[fl];have e:(aV s).length=s.text+2:=by simp[aV]
   split
   .simp only[fx,gi];omega
   omega
 have d:=b f.subs;simp only[fieldBytes,eb]at*;omega
theorem eY{a:List ag}{b:Bs}{f:ag}(h:firstF a b=X f):f∈a:=List.mem_of_find?_eq_some h
theorem cM{a:List ag}(d:br a)(c b:Bs):(textF (firstF a c) b).length<=1000000:=by
 cases h:firstF a c with
 |none=>simp[textF]
 |some f=>exact fr (nX f b) (d.2 f (eY h))
theorem nW(k l:UInt8)(x:fp)(b:List ag)(w:er)(L:ah 0 w w x b)(H:br b):
 fb prog 178 #[.agg #[J ds k,J ds l,x]] w λe w'=>e=da (S (aN b))/\Bw w w':=by
 have a0:(w.alloc (cs #[J ds k,J ds l,x] 62)).heap.size=w+1:=by simp
 have E:Bw w (w.alloc (cs #[J ds k,J ds l,x] 62)):=(em _ w).alloc (dz _) _;have o:=Z (q9 k l x b [50,52,53] [97,98] (w.alloc (cs #[J ds k,J ds l,x] 62)) ((fk L (dz _) E).mono (dz _) (by omega)) H);have M:=Z (cM H [50,52,53] [97,98]);have h:Hid (aN b=dG (textF (firstF b [50,52,53]) [97,98]) (skI ((firstF b [50,52,53]).getD zeroF).ind)):=by unfold Hid aN;rw[rz];rfl
 have t:=Z E;clear L H E;generalize textF (firstF b [50,52,53]) [97,98]=T at*;unfold gM at o;generalize(firstF b [50,52,53]).getD zeroF=g at*;obtain⟨D,B,A,C⟩:=g;change Hid (aN b=dG T (skI B))at h;change Hid (fb prog 184 _ _ λe w'=>(∃v,e=da (.tuple #[S T,v])/\∃d,v=.agg #[S D,S B,S A,d]/\aE 0 _ w' d C)/\hV _ _ w')at o;have y:Hid (∀(q:Nat)(W:er),q<=1000->fb prog 231 #[S T,q] W λe w'=>e=da (S (dG T q))/\Bw W w'):=λq W N=>yM T q M.o N W;rcases B with _|⟨a,_|⟨c,r⟩⟩
 .change Hid (aN b=dG T 0)at h;go_enter func178,ntmps178
  go_wp2_with (first
   |(go_at_call 184;((with_reducible refine dy o.o ?_);rintro e i⟨⟨v,rfl,_,rfl,p,s,rfl,_⟩,j⟩))
   |(go_at_call 231;((with_reducible refine dy (y.o 0 _ (by omega)) ?_);rintro e I⟨rfl,m⟩)))
  go_ret;have f:Bw w i:=t.o.trans (j.mono (by simp));exact⟨by rw[h.o];rfl,(f.alloc f.size _).trans (m.mono (by have:=f.size;simp;omega))⟩
 .change Hid (aN b=dG T 0)at h;go_enter func178,ntmps178
  go_wp2_with (first
   |(go_at_call 184;((with_reducible refine dy o.o ?_);rintro e i⟨⟨v,rfl,_,rfl,p,s,rfl,_⟩,j⟩))
   |(go_at_call 231;((with_reducible refine dy (y.o 0 _ (by omega)) ?_);rintro e I⟨rfl,m⟩)))
  go_ret;have f:Bw w i:=t.o.trans (j.mono (by simp));exact⟨by rw[h.o];rfl,(f.alloc f.size _).trans (m.mono (by have:=f.size;simp;omega))⟩
 have u:Hid (∀W,fb prog 230 #[S [c]] W λe w'=>e=da (dq (digitB c))/\Bw W w'):=λW=>by have:=dX [c] W (by simp);rwa[show[c].all digitB=digitB c by simp]at this
 have V:(1:Int)<((a::c::r).length:Int):=by simp;omega
 by_cases hd:digitB c=true
 .have z:Hid (aN b=dG T (c.toNat-48)):=by unfold Hid;rw[h.o];rw[lw,if_pos hd]
  rw[hd]at u;obtain⟨O,P⟩:=eo hd;have Q:((c.toNat:Int)-48)=((c.toNat-48:Nat):Int):=by omega
  have R:c.toNat-48<=9:=by omega
  clear h hd;generalize c.toNat-48=q at*;go_enter func178,ntmps178
  go_wp2_with (first
   |(go_at_call 184;((with_reducible refine dy o.o ?_);rintro e i⟨⟨v,rfl,_,rfl,p,s,rfl,_⟩,j⟩))
   |(go_at_call 230;((with_reducible refine dy (u.o _) ?_);rintro e K⟨rfl,n⟩;have c1:K.cell? ⟨i,1,Y⟩=X (S (a::c::r)):=((aq n).1 _ _ (by simp)).trans (by rw[g5];rfl)))
   |(go_at_call 231;((with_reducible refine dy (y.o q _ (by omega)) ?_);rintro e I⟨rfl,m⟩)))
  go_ret;have f:Bw w i:=t.o.trans (j.mono (by simp));have G:=f.size;have F:=f.alloc G (cs #[S D,S (a::c::r),S A,dc p C s] 123);exact⟨by rw[z.o];rfl,(F.trans (n.mono (by simp;omega))).trans (m.mono (by have:=n.size;simp at this;omega))⟩
 have z:Hid (aN b=dG T 0):=by unfold Hid;rw[h.o];rw[lw,if_neg hd]
 rw[show digitB c=false by simpa using hd]at u;clear h hd;go_enter func178,ntmps178
 go_wp2_with (first
  |(go_at_call 184;((with_reducible refine dy o.o ?_);rintro e i⟨⟨v,rfl,_,rfl,p,s,rfl,_⟩,j⟩))
  |(go_at_call 230;((with_reducible refine dy (u.o _) ?_);rintro e K⟨rfl,n⟩;have c1:K.cell? ⟨i,1,Y⟩=X (S (a::c::r)):=((aq n).1 _ _ (by simp)).trans (by rw[g5];rfl)))
  |(go_at_call 231;((with_reducible refine dy (y.o 0 _ (by omega)) ?_);rintro e I⟨rfl,m⟩)))
 go_ret;have f:Bw w i:=t.o.trans (j.mono (by simp));have G:=f.size;have F:=f.alloc G (cs #[S D,S (a::c::r),S A,dc p C s] 123);exact⟨by rw[z.o];rfl,(F.trans (n.mono (by simp;omega))).trans (m.mono (by have:=n.size;simp at this;omega))⟩
theorem bm{fn:Func}{p u:Tmp}{c:TypeId}(h:fn.results= #[.cell p c,.tmp u])(b:Array fp)(P:Program)(w:er):
 (results fn b).run P w=
  ((asAddr (b.getD p undef)).run P w).andThen λa d=>((loadVar c a).run P d).andThen λv e=>.ok (.tuple #[v,b.getD u undef]) e:=by
 simp only[results,h];simp[Sem.run_bind,Result.andThen]
theorem oL(k l:UInt8)(x:fp)(c:List ag)(j:Bs)(w:er)(E:ah 0 w w x c)(V:c.length<=1000000):
 fb prog 181 #[.agg #[J ds k,J ds l,x],S j] w λe w'=>(∃v,e=da (.tuple #[v,dq (firstF c j).isSome])/\gM w w' (firstF c j) v)/\Bw w w':=by
 obtain⟨g,o⟩:=Qe (((w.alloc (cs #[J ds k,J ds l,x] 62)).alloc (cs #[S j] 9)).alloc (cs #[S [],S [],S [],dc Y 0 0] 123));have a1:g.heap.size=w+3:=by rw[<- o];simp
 have B:Bw w g:=by rw[<- o];exact(((em _ w).alloc (dz _) _).alloc (by simp) _).alloc (by simp;omega) _
 have L:ah 0 g g x c:=(fk E (dz _) B).mono (dz _) (by omega);have A:g.heap[w.heap.size]?=X (cs #[J ds k,J ds l,x] 62 (0,0)):=by rw[<- o,eQ _ _ _ (by simp;omega),eQ _ _ _ (by simp)];exact eg w _
 have H:g.heap[w.heap.size+1]?=X (cs #[S j] 9 (0,0)):=by rw[<- o,eQ _ _ _ (by simp)];have:=eg (w.alloc (cs #[J ds k,J ds l,x] 62)) (cs #[S j] 9);rwa[e9]at this
 have K:g.heap[w.heap.size+1+1]?=X (cs #[S [],S [],S [],dc Y 0 0] 123 (0,0)):=by rw[<- o];have:=eg ((w.alloc (cs #[J ds k,J ds l,x] 62)).alloc (cs #[S j] 9)) (cs #[S [],S [],S [],dc Y 0 0] 123);rwa[e9,e9]at this
 have t:=Z (nH (w.heap.size+1) j x c g L V (by rw[ab H];rfl));have O:g.cell? ⟨w,2,Y⟩=X x:=by rw[ab A];rfl
 have W:=E;have HA:=Z A;have G:=Z K;have m:=Z B;clear A H K L E B;rcases sr j c with⟨n,r,hn,q⟩|⟨r,q⟩;rotate_left
 .rw[r,show ixI Y= -1 from rfl]at t;rw[q];clear r q;go_enter func181,ntmps181;go_wp2_with (go_at_call 241;(refine dy t.o ?_;rintro e f⟨rfl,i⟩;have a:f.heap[w.heap.size+1+1]?=X (cs #[S [],S [],S [],dc Y 0 0] 123 (0,0)):=(i.block _ (by omega)).trans G.o;have z0:=ae a 0;have z1:=ae a 1;have z2:=ae a 2;have z3:=ae a 3;have y0:f.cell? ⟨w.heap.size+1+1,0,Y⟩=X (S []):=(by rw[ab a];rfl);have y1:f.cell? ⟨w.heap.size+1+1,1,Y⟩=X (S []):=(by rw[ab a];rfl);have y2:f.cell? ⟨w.heap.size+1+1,2,Y⟩=X (S []):=(by rw[ab a];rfl);have y3:f.cell? ⟨w.heap.size+1+1,3,Y⟩=X (dc Y 0 0):=(by rw[ab a];rfl);clear a))
  refine gx (v:=.tuple #[.agg #[S [],S [],S [],dc Y 0 0],dq false]) (by rw[bm rfl];go_simp) rfl ?_;have C:Bw w f:=m.trans (i.mono m.size);exact⟨⟨_,rfl,dc Y 0 0,rfl,_,_,rfl,λh=>absurd rfl h⟩,(((C.setCell (p:=⟨w.heap.size+1+1,0,Y⟩) (by simp;omega) _).setCell (p:=⟨w.heap.size+1+1,1,Y⟩) (by simp;omega) _).setCell (p:=⟨w.heap.size+1+1,2,Y⟩) (by simp;omega) _).setCell (p:=⟨w.heap.size+1+1,3,Y⟩) (by simp;omega) _⟩
 rw[r,show ixI (X n)=n from rfl]at t;rw[q];obtain⟨b,s,R,d,hv,_,u,P,c1,c2,Q,F⟩:=W.field n hn;subst hv;have N:Hid (gM w w (X c[n]) (.agg #[S c[n].tag,S c[n].ind,S c[n].data,d])):=⟨d,rfl,F⟩;obtain⟨y,z,rfl,_⟩:=id F;generalize c[n].subs=ss at*;generalize c[n].tag=T at*;generalize c[n].ind=I at*;generalize c[n].data=D at*;generalize c[n]=FF at*;have a0:(n:Int)<(c.length:Int):=by omega
 clear r q F;go_enter func181,ntmps181;go_wp2_with (go_at_call 241;(refine dy t.o ?_;rintro e f⟨rfl,i⟩;have a3:f.cell? ⟨w,2,Y⟩=X (dc (X ⟨b,s,Y⟩) c R):=(((aq i).1 w 2 (by omega)).trans O);have e0:f.cell? ⟨b,s+n*4,Y⟩=X (S T):=((aq i).1 b _ (by omega)).trans (((aq m.o).1 b _ u).trans P);have e1:f.cell? ⟨b,s+n*4+1,Y⟩=X (S I):=((aq i).1 b _ (by omega)).trans (((aq m.o).1 b _ u).trans c1);have e2:f.cell? ⟨b,s+n*4+2,Y⟩=X (S D):=((aq i).1 b _ (by omega)).trans (((aq m.o).1 b _ u).trans c2);have e3:f.cell? ⟨b,s+n*4+3,Y⟩=X (dc y ss z):=((aq i).1 b _ (by omega)).trans (((aq m.o).1 b _ u).trans Q);have a:f.heap[w.heap.size+1+1]?=X (cs #[S [],S [],S [],dc Y 0 0] 123 (0,0)):=(i.block _ (by omega)).trans G.o;have z0:=ae a 0;have z1:=ae a 1;have z2:=ae a 2;have z3:=ae a 3;have y0:f.cell? ⟨w.heap.size+1+1,0,Y⟩=X (S []):=(by rw[ab a];rfl);have y1:f.cell? ⟨w.heap.size+1+1,1,Y⟩=X (S []):=(by rw[ab a];rfl);have y2:f.cell? ⟨w.heap.size+1+1,2,Y⟩=X (S []):=(by rw[ab a];rfl);have y3:f.cell? ⟨w.heap.size+1+1,3,Y⟩=X (dc Y 0 0):=(by rw[ab a];rfl);clear a))
 refine gx (v:=.tuple #[.agg #[S T,S I,S D,dc y ss z],dq true]) (by rw[bm rfl];go_simp) rfl ?_;have C:Bw w f:=m.trans (i.mono m.size);have M:=(((C.setCell (p:=⟨w.heap.size+1+1,0,Y⟩) (by simp;omega) (S T)).setCell (p:=⟨w.heap.size+1+1,1,Y⟩) (by simp;omega) (S I)).setCell (p:=⟨w.heap.size+1+1,2,Y⟩) (by simp;omega) (S D)).setCell (p:=⟨w.heap.size+1+1,3,Y⟩) (by simp;omega) (dc y ss z);exact⟨⟨_,rfl,gM.up N.o M⟩,M⟩
theorem nC(s:Bs)(h:s.length≠4):aP s= -1:=by unfold aP;rw[if_neg λa=>h a.1]
theorem eM:∀s:Bs,s.length<4->bu s= -1
 |[],_=>rfl
 |c::l,h=>by
  unfold bu
  have:aP ((c::l).take 4)= -1:=nC _ (by rw[e6];simp only[es]at*;omega)
  rw[this,if_neg (by omega)]
  exact eM l (by simp only[es]at h;omega)
theorem fm(s:Bs)(k:Nat)(h:k<s):bu (s.drop k)=if 0<=aP ((s.drop k).take 4)then aP ((s.drop k).take 4)else bu (s.drop (k+1)):=by
 rw[gP h];rfl
theorem j7(o:Option ag)(a:Bs):textF o a=textS (o.getD zeroF).subs a:=by
 cases o<;>rfl
theorem aE.up2{c:Nat}{w w':er}{v:fp}{d:List cH}(h:aE 0 c w v d)(a:Bw w w')(b:c<=w):aE 0 w' w' v d:=
 (pw h b a).mono (dz _) (fr b a.size)
theorem bo(w:er)(o:Obj):Bw w (w.alloc o):=(em _ w).alloc (dz _) _
theorem yl(k l:UInt8)(x:fp)(b:List ag)(w:er)(hs:ah 0 w w x b)(a3:br b):
 fb prog 179 #[.agg #[J ds k,J ds l,x]] w λe w'=>e=da (bx b)/\Bw w w':=by
 have HS:=Z hs;have n:Hid (∀W,hV (w.heap.size+1) (w.alloc (cs #[J ds k,J ds l,x] 62)) W->W.cell? w=X (J ds k)/\W.cell? ⟨w,1,Y⟩=X (J ds l)/\W.cell? ⟨w,2,Y⟩=X x):=λW h=>by have:W.heap[w.heap.size]?=X (cs #[J ds k,J ds l,x] 62 (0,0)):=(h.block _ (by omega)).trans (eg w _);exact⟨by rw[ab this];rfl,by rw[ab this];rfl,by rw[ab this];rfl⟩
 have H1:Hid (∀(p:Bs)(W:er),Bw w W->fb prog 181 #[.agg #[J ds k,J ds l,x],S p] W λe w'=>(∃v,e=da (.tuple #[v,dq (firstF b p).isSome])/\∃d,v=.agg #[S ((firstF b p).getD zeroF).tag,S ((firstF b p).getD zeroF).ind,S ((firstF b p).getD zeroF).data,d]/\aE 0 W w' d ((firstF b p).getD zeroF).subs)/\Bw W w'):=λp W j=>
  oL k l x b p W ((fk HS.o (dz _) j).mono (dz _) j.size) a3.1
 have a0:Hid (∀p,((firstF b p).getD zeroF).subs.length<=1000000/\(∀s∈((firstF b p).getD zeroF).subs,s.text.length<=1000000)/\(textS ((firstF b p).getD zeroF).subs [99]).length<=1000000/\((firstF b p).getD zeroF).data.length<=1000000):=λp=>by
  cases h:firstF b p with
  |none=>exact⟨by simp[zeroF],by simp[zeroF],by simp[zeroF,textS,joinR],by simp[zeroF]⟩
  |some f=>
   have hm:=a3.2 f (eY h);refine⟨fr (cr f) hm,λs hs=>iX hm hs,fr (nX f [99]) hm,?_⟩;have:f.data<=(fieldBytes f).length:=by simp only[fieldBytes,eb];omega
   exact fr this hm
 have HY:Hid (bx b=if 0<=fE b then fE b else bu (textS ((firstF b [50,54,48]).getD zeroF).subs [99])):=by unfold Hid bx;rw[j7];rfl
 have a1:Hid (fE b=if(firstF b [48,48,56]).isSome=true/\11<=((firstF b [48,48,56]).getD zeroF).data.length then aP ((((firstF b [48,48,56]).getD zeroF).data.take 11).drop 7)else -1):=by
  unfold Hid fE;show(match firstF b [48,48,56]with|some f=>_|none=>_)=_;cases firstF b [48,48,56]with
  |none=>rfl
  |some f=>simp[CB]
 have H2:Hid (∀W,Bw w W->fb prog 181 #[.agg #[J ds k,J ds l,x],S [50,54,48]] W λe w'=>(∃v,e=da (.tuple #[v,dq (firstF b [50,54,48]).isSome])/\∃d,v=.agg #[S ((firstF b [50,54,48]).getD zeroF).tag,S ((firstF b [50,54,48]).getD zeroF).ind,S ((firstF b [50,54,48]).getD zeroF).data,d]/\aE 0 W w' d ((firstF b [50,54,48]).getD zeroF).subs)/\Bw W w'):=H1.o [50,54,48];have H0:=Z (H1.o [48,48,56]);obtain⟨m1,m2,m3,_⟩:=a0.o [50,54,48];obtain⟨_,_,_,m4⟩:=a0.o [48,48,56]
 have H3:Hid (∀(a i D:Bs)(W:er)(d:fp),aE 0 W W d ((firstF b [50,54,48]).getD zeroF).subs->fb prog 183 #[.agg #[S a,S i,S D,d],J ds 99] W λe w'=>e=da (S (textS ((firstF b [50,54,48]).getD zeroF).subs [99]))/\Bw W w'):=λa i D W d h=>
  rb a i D d _ 99 W h m1 m2
 have HN:Hid (∀(s:Bs)(W:er),s.length<=1000000->fb prog 232 #[S s] W λe w'=>e=da (aP s)/\Bw W w'):=λs W h=>ul s W h;clear H1 a0 hs a3 m2;generalize(firstF b [50,54,48]).isSome=b6 at*;generalize(firstF b [48,48,56]).isSome=b8 at*;generalize(firstF b [50,54,48]).getD zeroF=g6 at*;generalize(firstF b [48,48,56]).getD zeroF=g8 at*;obtain⟨t6,i6,d6,s6⟩:=g6;obtain⟨t8,i8,I,s8⟩:=g8;dsimp only at*;generalize textS s6 [99]=T at*;have A:Hid (Bw w (w.alloc (cs #[J ds k,J ds l,x] 62))):=(em _ w).alloc (dz _) _;have ao:(w.alloc (cs #[J ds k,J ds l,x] 62)).heap.size=w+1:=by simp
 cases b8
 .have B:Hid (bx b=bu T):=by unfold Hid;rw[HY.o,a1.o,if_neg (by simp)]
  go_enter func179,ntmps179
  go_wp2_with (first
   |(go_at_call 181;((with_reducible refine dy (H0.o _ A.o) ?_);rintro e g⟨⟨v,rfl,dd,rfl,m⟩,u⟩;obtain⟨ad,cp,rfl,_⟩:=m;have c:Hid (∀o,hV (w.heap.size+1) (w.alloc (cs #[J ds k,J ds l,x] 62)) (g.alloc o)):=λo=>(u.mono (by omega)).alloc (by have:=u.size;omega) o;have C:Hid (∀o,Bw w (g.alloc o)):=λo=>A.o.trans ((c.o o).mono (by omega));have xa:∀o,(g.alloc o).cell? w=X (J ds k):=λo=>(n.o _ (c.o o)).1;have xb:∀o,(g.alloc o).cell? ⟨w,1,Y⟩=X (J ds l):=λo=>(n.o _ (c.o o)).2.1;have xc:∀o,(g.alloc o).cell? ⟨w,2,Y⟩=X x:=λo=>(n.o _ (c.o o)).2.2))
   |(go_at_call 181;((with_reducible refine dy (H2.o _ (C.o _)) ?_);rintro e R⟨⟨v5,rfl,d5,rfl,m⟩,G⟩;obtain⟨a6,a7,rfl,_⟩:=id m;have M:=Z m;clear m))
   |(go_at_call 183;((with_reducible refine dy (H3.o _ _ _ _ _ (M.o.up2 (bo _ _) G.size)) ?_);rintro e V⟨rfl,N⟩)))
  have y:Bw w R:=btr (C _) G ((C _)).size;have O:Bw w V:=btr (y.alloc y.size _) N (by have:=y.size;simp;omega);go_loopw [9,10] (λi _n wr=>∃q:Nat,q<=T.length/\i=J U q/\Hid (bu T=bu (T.drop q))/\Bw w wr) (λi _ _=>T.length-(intOf i).toNat)
  exact⟨0,gb _,rfl,rfl,O⟩;obtain⟨q,hq,rfl,t,j⟩:=hrel;by_cases hlt:q+4<=T.length;rotate_left
  .have P:¬((q:Int)+4<=(T.length:Int)):=by omega
   have L:Hid (bu (T.drop q)= -1):=eM _ (by rw[e7];omega);go_wp2_with fail;go_ret;exact⟨aI (by rw[B.o,t.o,L.o]),j⟩
  have P:(q:Int)+4<=(T.length:Int):=by omega
  have H:((T.take (q+4)).drop q)=(T.drop q).take 4:=by rw[List.take_drop]
  have r:Hid (bu (T.drop q)=if 0<=aP ((T.take (q+4)).drop q)then aP ((T.take (q+4)).drop q)else bu (T.drop (q+1))):=by unfold Hid;rw[fm T q (by omega),H]
  have F:Hid (∀W,fb prog 232 #[S ((T.take (q+4)).drop q)] W λe w'=>e=da (aP ((T.take (q+4)).drop q))/\Bw W w'):=λW=>HN.o _ W (by rw[e7,e6];omega);clear H;generalize aP ((T.take (q+4)).drop q)=nf at*;by_cases hnf:0<=nf
  .rw[if_pos hnf]at r;go_wp2_with (go_at_call 232;(refine dy (F.o _) ?_;rintro e w7⟨rfl,z⟩))
   go_ret;exact⟨aI (by rw[B.o,t.o,r.o]),btr j z j.size⟩
  rw[if_neg hnf]at r;go_wp2_with (go_at_call 232;(refine dy (F.o _) ?_;rintro e w7⟨rfl,z⟩))
  go_roundw
  case rel=>exact⟨q+1,by omega,by go_num,by unfold Hid;rw[t.o,r.o],btr j z j.size⟩
  simp[intOf];omega
 by_cases h11:11<=I.length;rotate_left
 .have a9:¬((11:Int)<=(I.length:Int)):=by omega
  have a8:fE b= -1:=by rw[a1.o,if_neg (λh=>h11 h.2)]
  have B:Hid (bx b=bu T):=by unfold Hid;rw[HY.o,a8,if_neg (by omega)]
  clear a8;go_enter func179,ntmps179
  go_wp2_with (first
   |(go_at_call 181;((with_reducible refine dy (H0.o _ A.o) ?_);rintro e g⟨⟨v,rfl,dd,rfl,m⟩,u⟩;obtain⟨ad,cp,rfl,_⟩:=m;have c:Hid (∀o,hV (w.heap.size+1) (w.alloc (cs #[J ds k,J ds l,x] 62)) (g.alloc o)):=λo=>(u.mono (by omega)).alloc (by have:=u.size;omega) o;have C:Hid (∀o,Bw w (g.alloc o)):=λo=>A.o.trans ((c.o o).mono (by omega));have xa:∀o,(g.alloc o).cell? w=X (J ds k):=λo=>(n.o _ (c.o o)).1;have xb:∀o,(g.alloc o).cell? ⟨w,1,Y⟩=X (J ds l):=λo=>(n.o _ (c.o o)).2.1;have xc:∀o,(g.alloc o).cell? ⟨w,2,Y⟩=X x:=λo=>(n.o _ (c.o o)).2.2))
   |(go_at_call 181;((with_reducible refine dy (H2.o _ (C.o _)) ?_);rintro e R⟨⟨v5,rfl,d5,rfl,m⟩,G⟩;obtain⟨a6,a7,rfl,_⟩:=id m;have M:=Z m;clear m))
   |(go_at_call 183;((with_reducible refine dy (H3.o _ _ _ _ _ (M.o.up2 (bo _ _) G.size)) ?_);rintro e V⟨rfl,N⟩)))
  have y:Bw w R:=btr (C _) G ((C _)).size;have O:Bw w V:=btr (y.alloc y.size _) N (by have:=y.size;simp;omega);go_loopw [9,10] (λi _n wr=>∃q:Nat,q<=T.length/\i=J U q/\Hid (bu T=bu (T.drop q))/\Bw w wr) (λi _ _=>T.length-(intOf i).toNat)
  exact⟨0,gb _,rfl,rfl,O⟩;obtain⟨q,hq,rfl,t,j⟩:=hrel;by_cases hlt:q+4<=T.length;rotate_left
  .have P:¬((q:Int)+4<=(T.length:Int)):=by omega
   have L:Hid (bu (T.drop q)= -1):=eM _ (by rw[e7];omega);go_wp2_with fail;go_ret;exact⟨aI (by rw[B.o,t.o,L.o]),j⟩
  have P:(q:Int)+4<=(T.length:Int):=by omega
  have H:((T.take (q+4)).drop q)=(T.drop q).take 4:=by rw[List.take_drop]
  have r:Hid (bu (T.drop q)=if 0<=aP ((T.take (q+4)).drop q)then aP ((T.take (q+4)).drop q)else bu (T.drop (q+1))):=by unfold Hid;rw[fm T q (by omega),H]
  have F:Hid (∀W,fb prog 232 #[S ((T.take (q+4)).drop q)] W λe w'=>e=da (aP ((T.take (q+4)).drop q))/\Bw W w'):=λW=>HN.o _ W (by rw[e7,e6];omega);clear H;generalize aP ((T.take (q+4)).drop q)=nf at*;by_cases hnf:0<=nf
  .rw[if_pos hnf]at r;go_wp2_with (go_at_call 232;(refine dy (F.o _) ?_;rintro e w7⟨rfl,z⟩))
   go_ret;exact⟨aI (by rw[B.o,t.o,r.o]),btr j z j.size⟩
  rw[if_neg hnf]at r;go_wp2_with (go_at_call 232;(refine dy (F.o _) ?_;rintro e w7⟨rfl,z⟩))
  go_roundw
  case rel=>exact⟨q+1,by omega,by go_num,by unfold Hid;rw[t.o,r.o],btr j z j.size⟩
  simp[intOf];omega
 have a9:(11:Int)<=(I.length:Int):=by omega
 have a5:Hid (fE b=aP ((I.take 11).drop 7)):=by unfold Hid;rw[a1.o,if_pos ⟨rfl,h11⟩]
 have a4:Hid (∀W,fb prog 232 #[S ((I.take 11).drop 7)] W λe w'=>e=da (aP ((I.take 11).drop 7))/\Bw W w'):=λW=>HN.o _ W (by rw[e7,e6];omega);generalize aP ((I.take 11).drop 7)=nf8 at*;by_cases hnf8:0<=nf8
 .have B:Hid (bx b=nf8):=by unfold Hid;rw[HY.o,a5.o,if_pos hnf8]
  go_enter func179,ntmps179
  go_wp2_with (first
   |(go_at_call 181;((with_reducible refine dy (H0.o _ A.o) ?_);rintro e g⟨⟨v,rfl,dd,rfl,m⟩,u⟩;obtain⟨ad,cp,rfl,_⟩:=m;have c:Hid (∀o,hV (w.heap.size+1) (w.alloc (cs #[J ds k,J ds l,x] 62)) (g.alloc o)):=λo=>(u.mono (by omega)).alloc (by have:=u.size;omega) o;have C:Hid (∀o,Bw w (g.alloc o)):=λo=>A.o.trans ((c.o o).mono (by omega));have xa:∀o,(g.alloc o).cell? w=X (J ds k):=λo=>(n.o _ (c.o o)).1;have xb:∀o,(g.alloc o).cell? ⟨w,1,Y⟩=X (J ds l):=λo=>(n.o _ (c.o o)).2.1;have xc:∀o,(g.alloc o).cell? ⟨w,2,Y⟩=X x:=λo=>(n.o _ (c.o o)).2.2))
   |(go_at_call 232;((with_reducible refine dy (a4.o _) ?_);rintro e Q⟨rfl,a2⟩;have E:hV (w.heap.size+1) (w.alloc (cs #[J ds k,J ds l,x] 62)) Q:=btr (c.o _) a2 (by have:=(c.o (cs #[] 0)).size;simp at this ⊢;omega);have K:Hid (Bw w Q):=A.o.trans (E.mono (by omega));have aa:=(n.o _ E).1;have ac:=(n.o _ E).2.1;have al:=(n.o _ E).2.2)))
  go_ret;exact⟨aI B.symm,K.o⟩
 have B:Hid (bx b=bu T):=by unfold Hid;rw[HY.o,a5.o,if_neg hnf8]
 go_enter func179,ntmps179
 go_wp2_with (first
  |(go_at_call 181;((with_reducible refine dy (H0.o _ A.o) ?_);rintro e g⟨⟨v,rfl,dd,rfl,m⟩,u⟩;obtain⟨ad,cp,rfl,_⟩:=m;have c:Hid (∀o,hV (w.heap.size+1) (w.alloc (cs #[J ds k,J ds l,x] 62)) (g.alloc o)):=λo=>(u.mono (by omega)).alloc (by have:=u.size;omega) o;have C:Hid (∀o,Bw w (g.alloc o)):=λo=>A.o.trans ((c.o o).mono (by omega));have xa:∀o,(g.alloc o).cell? w=X (J ds k):=λo=>(n.o _ (c.o o)).1;have xb:∀o,(g.alloc o).cell? ⟨w,1,Y⟩=X (J ds l):=λo=>(n.o _ (c.o o)).2.1;have xc:∀o,(g.alloc o).cell? ⟨w,2,Y⟩=X x:=λo=>(n.o _ (c.o o)).2.2))
  |(go_at_call 232;((with_reducible refine dy (a4.o _) ?_);rintro e Q⟨rfl,a2⟩;have E:hV (w.heap.size+1) (w.alloc (cs #[J ds k,J ds l,x] 62)) Q:=btr (c.o _) a2 (by have:=(c.o (cs #[] 0)).size;simp at this ⊢;omega);have K:Hid (Bw w Q):=A.o.trans (E.mono (by omega));have aa:=(n.o _ E).1;have ac:=(n.o _ E).2.1;have al:=(n.o _ E).2.2))
  |(go_at_call 181;((with_reducible refine dy (H2.o _ K.o) ?_);rintro e R⟨⟨v5,rfl,d5,rfl,m⟩,G⟩;obtain⟨a6,a7,rfl,_⟩:=id m;have M:=Z m;clear m))
  |(go_at_call 183;((with_reducible refine dy (H3.o _ _ _ _ _ (M.o.up2 (bo _ _) G.size)) ?_);rintro e V⟨rfl,N⟩)))
 have y:Bw w R:=btr K.o G (K.o).size;have O:Bw w V:=btr (y.alloc y.size _) N (by have:=y.size;simp;omega);go_loopw [9,10] (λi _n wr=>∃q:Nat,q<=T.length/\i=J U q/\Hid (bu T=bu (T.drop q))/\Bw w wr) (λi _ _=>T.length-(intOf i).toNat)
 case atStart=>exact⟨0,gb _,rfl,rfl,O⟩
 obtain⟨q,hq,rfl,t,j⟩:=hrel;by_cases hlt:q+4<=T.length;rotate_left
 .have P:¬((q:Int)+4<=(T.length:Int)):=by omega
  have L:Hid (bu (T.drop q)= -1):=eM _ (by rw[e7];omega);go_wp2_with fail;go_ret;exact⟨aI (by rw[B.o,t.o,L.o]),j⟩
 have P:(q:Int)+4<=(T.length:Int):=by omega
 have H:((T.take (q+4)).drop q)=(T.drop q).take 4:=by rw[List.take_drop]
 have r:Hid (bu (T.drop q)=if 0<=aP ((T.take (q+4)).drop q)then aP ((T.take (q+4)).drop q)else bu (T.drop (q+1))):=by unfold Hid;rw[fm T q (by omega),H]
 have F:Hid (∀W,fb prog 232 #[S ((T.take (q+4)).drop q)] W λe w'=>e=da (aP ((T.take (q+4)).drop q))/\Bw W w'):=λW=>HN.o _ W (by rw[e7,e6];omega);clear H;generalize aP ((T.take (q+4)).drop q)=nf at*;by_cases hnf:0<=nf
 .rw[if_pos hnf]at r;go_wp2_with (go_at_call 232;(refine dy (F.o _) ?_;rintro e w7⟨rfl,z⟩))
  go_ret;exact⟨aI (by rw[B.o,t.o,r.o]),btr j z j.size⟩
 rw[if_neg hnf]at r;go_wp2_with (go_at_call 232;(refine dy (F.o _) ?_;rintro e w7⟨rfl,z⟩))
 go_roundw
 case rel=>exact⟨q+1,by omega,by go_num,by unfold Hid;rw[t.o,r.o],btr j z j.size⟩
 simp[intOf];omega
abbrev signsI:Bs:=[48,49,50,51,52,53,54,55,56,57,88,120,32,45]
theorem zU(c:Nat)(h:128<=c):(∃a y:UInt8,gy (c:Int)=⟨#[a,y]⟩/\128<=y.toNat)∨(∃a b y:UInt8,gy (c:Int)=⟨#[a,b,y]⟩/\128<=y.toNat)∨∃a b d y:UInt8,gy (c:Int)=⟨#[a,b,d,y]⟩/\128<=y.toNat:=by
 have hn:∃n,(if Utf8.valid (c:Int)then(c:Int).toNat else Utf8.runeError)=n/\128<=n:=by
  refine⟨_,rfl,?_⟩;split
  .simpa using h
  decide
 obtain⟨n,f,g⟩:=hn;have e:∀k:Nat,128<=(e5 (128+k%64)).toNat:=λk=>by
  have:(e5 (128+k%64)).toNat=128+k%64:=by rw[UInt8.toNat_ofNat'];omega
  omega
 unfold gy;rw[f];dsimp only;rw[if_neg (by omega)];split
 .exact .inl ⟨_,_,rfl,e n⟩
 split
 .exact .inr (.inl ⟨_,_,_,rfl,e n⟩)
 exact .inr (.inr ⟨_,_,_,_,rfl,e n⟩)
theorem qi(y:UInt8)(h:128<=y.toNat)(l:Bs)(a:∀b∈l,b.toNat<128)(w:er):fb prog 246 #[S l,J ds y] w λe w'=>e=da (J U (-1))/\w'=w:=by
 have:=strings_IndexByte ⟨l.toArray⟩ y w;refine this.mono ?_;rintro e w'⟨rfl,rfl⟩;refine⟨?_,rfl⟩;have c:(y.toNat:Int).toNat.toUInt8=y:=by simp
 rw[c];have:g2 l y= -1:=by
  clear this c;induction l with
  |nil=>rfl
  |cons b l ih=>
   have:=a b he;simp only[g2];have f:(b==y)=false:=by
    cases hby:b==y
    .rfl
    have e:b=y:=by simpa using hby
    rw[e]at this;omega
   rw[f,ih (λd g=>a d (g9 _ g))];rfl
 exact congrArg (λi=>Ending.returned (J U i)) this
theorem wi(c:Nat)(i:c<=1114111)(a:¬(55296<=c/\c<=57343))(w:er):fb prog 312 #[J dx c] w λe w'=>e=da (dq true)/\w'=w:=by
 have d:(0:Int)<=c:=by omega
 by_cases h:c<55296
 .have b:(c:Int)<55296:=by omega
  clear a h;go_enter func312,ntmps312;go_wp2_with fail;go_ret;exact⟨rfl,rfl⟩
 have b:¬(c:Int)<55296:=by omega
 have f:(57343:Int)<c:=by omega
 have g:(c:Int)<=1114111:=by omega
 clear a h;go_enter func312,ntmps312;go_wp2_with fail;go_ret;exact⟨rfl,rfl⟩
theorem pi(c:Nat)(a:55296<=c/\c<=57343)(w:er):fb prog 312 #[J dx c] w λe w'=>e=da (dq false)/\w'=w:=by
 have b:(0:Int)<=c:=by omega
 have d:¬(c:Int)<55296:=by omega
 have f:¬(57343:Int)<c:=by omega
 clear a;go_enter func312,ntmps312;go_wp2_with fail;go_ret;exact⟨rfl,rfl⟩
theorem xt(c:Nat)(h:128<=c)(l:c<=1114111)(m:c≠65533)(w:er):fb prog 284 #[S signsI,J dx c] w λe w'=>e=da (J U (-1))/\Bw w w':=by
 have q:(0:Int)<=c:=by omega
 have r:¬(c:Int)<128:=by omega
 have s:¬((c:Int)=65533):=by omega
 by_cases hs:55296<=c/\c<=57343
 .have k:Hid (∀W,fb prog 312 #[J dx c] W λe w'=>e=da (dq false)/\w'=W):=λW=>pi c hs W;clear hs h m l;go_enter func284,ntmps284;go_wp2_with (go_at_call 312;(refine dy (k.o _) ?_;rintro e w1⟨rfl,rfl⟩))
  go_ret;exact⟨rfl,em _ _⟩
 have k:Hid (∀W,fb prog 312 #[J dx c] W λe w'=>e=da (dq true)/\w'=W):=λW=>wi c l hs W;have p:=zU c h;clear hs h m l;rcases p with⟨a,y,f,g⟩|⟨a,b,y,f,g⟩|⟨a,b,d,y,f,g⟩
 .have j:Hid (∀W,fb prog 246 #[S [50,51,52,53,54,55,56,57,88,120,32,45],J ds y] W λe w'=>e=da (J U (-1))/\w'=W):=λW=>qi y g _ (by decide) W;have n:¬((49:Int)=y):=by omega
  have i:Hid (gq (gy (c:Int))=S [a,y]):=by unfold Hid;rw[f]
  clear g f;go_enter func284,ntmps284;go_upto_region 2 with(go_at_call 312;(refine dy (k.o _) ?_;rintro e w1⟨rfl,rfl⟩))
  go_step3
  go_upto_region 2 with fail;rw[i.o];go_wp2_with fail;refine gt 2 ?_;rw[e8];go_wp2_with fail;go_step3
  go_wp2_with fail;go_region;go_wp2_with fail;go_region_with (go_at_call 246;refine(j.o _).mono ?_;rintro e o⟨rfl,rfl⟩)
  all_goals(go_wp2_with fail;rw[ft];go_wp2_with fail;rw[ft];go_wp2_with fail;go_ret;exact⟨rfl,(em _ _).drew.drew⟩)
 .have j:Hid (∀W,fb prog 246 #[S [51,52,53,54,55,56,57,88,120,32,45],J ds y] W λe w'=>e=da (J U (-1))/\w'=W):=λW=>qi y g _ (by decide) W;have n:¬((50:Int)=y):=by omega
  have i:Hid (gq (gy (c:Int))=S [a,b,y]):=by unfold Hid;rw[f]
  clear g f;go_enter func284,ntmps284;go_upto_region 2 with(go_at_call 312;(refine dy (k.o _) ?_;rintro e w1⟨rfl,rfl⟩))
  go_step3
  go_upto_region 2 with fail;rw[i.o];go_wp2_with fail;refine gt 2 ?_;rw[e8];go_wp2_with fail;go_step3
  go_wp2_with fail;go_region;go_wp2_with fail;go_region_with (go_at_call 246;refine(j.o _).mono ?_;rintro e o⟨rfl,rfl⟩)
  all_goals(go_wp2_with fail;rw[ft];go_wp2_with fail;rw[ft];go_wp2_with fail;go_ret;exact⟨rfl,(em _ _).drew.drew⟩)
 have j:Hid (∀W,fb prog 246 #[S [52,53,54,55,56,57,88,120,32,45],J ds y] W λe w'=>e=da (J U (-1))/\w'=W):=λW=>qi y g _ (by decide) W;have n:¬((51:Int)=y):=by omega
 have i:Hid (gq (gy (c:Int))=S [a,b,d,y]):=by unfold Hid;rw[f]
 clear g f;go_enter func284,ntmps284;go_upto_region 2 with(go_at_call 312;(refine dy (k.o _) ?_;rintro e w1⟨rfl,rfl⟩))
 go_step3
 go_upto_region 2 with fail;rw[i.o];go_wp2_with fail;refine gt 2 ?_;rw[e8];go_wp2_with fail;go_step3
 go_wp2_with fail;go_region;go_wp2_with fail;go_region_with (go_at_call 246;refine(j.o _).mono ?_;rintro e o⟨rfl,rfl⟩)
 all_goals(go_wp2_with fail;rw[ft];go_wp2_with fail;rw[ft];go_wp2_with fail;go_ret;exact⟨rfl,(em _ _).drew.drew⟩)
theorem nD(w:er):fb prog 284 #[S signsI,J dx 65533] w λe w'=>e=da (J U (-1))/\Bw w w':=by
 have q:Hid (∀p<14,(fc ⟨signsI.toArray⟩ p).2=1/\(fc ⟨signsI.toArray⟩ p).1<128):=by unfold Hid;decide+kernel
 go_enter func284,ntmps284;go_wp2_with fail;have m:(w.alloc (.stringIter ⟨signsI.toArray⟩ 0)).heap[w.heap.size]?=X (.stringIter ⟨signsI.toArray⟩ 0):=eg w _;have s:=Z m;have n:Hid (Bw w (w.alloc (.stringIter ⟨signsI.toArray⟩ 0))):=(em _ w).alloc (dz _) _;clear m;go_loopw [5,6] (λ_a _b wr=>Hid (Bw w wr)/\∃a:Nat,a<=14/\Hid (wr.heap[w.heap.size]?=X (.stringIter ⟨signsI.toArray⟩ a))) (λ_ _ wr=>14-wr.iterPos w)
 exact⟨n,0,by omega,s⟩;obtain⟨g,a,x,c⟩:=hrel;have l:wr.iterPos w=a:=by simp[hb,c.o]
 have r:=Z l;clear l;by_cases hp:a<14;rotate_left
 .have v:¬a<(⟨signsI.toArray⟩:ByteArray).size:=hp;have j:∀b,(hu (.pointer w) true b).run prog wr=_:=λb=>hP wr w ⟨signsI.toArray⟩ a b c.o v;go_wp2_with fail;(try rw[ft])
  go_ret;exact⟨rfl,g.o⟩
 obtain⟨i,t⟩:=q a hp;have j:∀b,(hu (.pointer w) true b).run prog wr=_:=λb=>hQ wr w ⟨signsI.toArray⟩ a b c.o hp;have f:=Lib.iterAt_heap wr w ⟨signsI.toArray⟩ a (a+(fc ⟨signsI.toArray⟩ a).2) c.o;have d:=Lib.below_iterAt g.o (k:=w.heap.size) (dz _) ⟨signsI.toArray⟩ (a+(fc ⟨signsI.toArray⟩ a).2);rw[i]at j f d;generalize(wr.iterAt w ⟨signsI.toArray⟩ (a+1))=W1 at*;generalize(fc ⟨signsI.toArray⟩ a).1=z at*;have y:¬((z:Int)=65533):=by omega
 have h:=Z f;have o:=Z d;clear f d i t;go_wp2_with fail;go_roundw
 case rel=>exact⟨o,a+1,by omega,h⟩
 have u:W1.iterPos w=a+1:=by simp[hb,h.o]
 rw[u,r.o];omega
def partB(b:UInt8):Bool:=signsI.contains b
theorem A5:∀b:UInt8,partB b=true->b.toNat<128:=by
 intro b h;have:b∈signsI:=by simpa[partB]using h
 simp[signsI]at this;rcases this with rfl|rfl|rfl|rfl|rfl|rfl|rfl|rfl|rfl|rfl|rfl|rfl|rfl|rfl<;>decide
theorem sN(b:UInt8)(t:List UInt8)(h:128<=b.toNat):128<=(Lib.decodeL (b::t)).1:=by
 rw[Lib.decodeL_N];unfold Lib.decodeN;rw[hK,if_neg (by omega)];split
 .split
  .assumption
  decide
 split
 .split
  .rename_i a c;omega
  decide
 split
 .split
  .rename_i a c;omega
  decide
 decide
def jE(c:Nat):Bool:=decide (c<128)&&partB (e5 c)
theorem xq(c:Nat)(b:c<=1114111)(w:er):fb prog 234 #[J dx c] w λe w'=>e=da (dq (!jE c))/\Bw w w':=by
 have f:Hid (fb prog 235 #[S signsI,J dx c] w λe w'=>e=da (dq (jE c))/\Bw w w'):=by
  by_cases h:c<128
  .refine(strings_ContainsRune_ascii ⟨signsI.toArray⟩ c w (by omega) (by omega)).mono ?_;rintro e w'⟨rfl,rfl⟩;refine⟨am ?_,em _ _⟩;unfold jE partB;rw[decide_eq_true h,Bool.true_and,Lib.contains_iff_indexByte];have:(c:Int).toNat.toUInt8=e5 c:=by simp
   rw[this]
  have g:Hid (fb prog 284 #[S signsI,J dx c] w λe w'=>e=da (J U (-1))/\Bw w w'):=by
   by_cases h2:c=65533
   .subst h2;exact nD w
   exact xt c (by omega) b h2 w
  have d:jE c=false:=by unfold jE;rw[decide_eq_false h];rfl
  rw[d];clear h d;go_enter func235,ntmps235;go_wp2_with (go_at_call 284;(refine dy g.o ?_;rintro e w1⟨rfl,a⟩))
  go_ret;exact⟨rfl,a⟩
 generalize jE c=p at*;clear b;go_enter func234,ntmps234;go_wp2_with (go_at_call 235;(refine dy f.o ?_;rintro e w1⟨rfl,a⟩))
 go_ret;exact⟨rfl,a⟩
def partN(s:Bs):Nat:=(s.takeWhile partB).length
theorem ze(s:Bs):partN s<=s:=(List.takeWhile_prefix _).length_le
theorem zf(s:Bs):∀k,k<s.length->(∀j(h:j<s.length),j<k->partB s[j]=true)->(partB (s.getD k 0)=false->partN s=k)/\(partB (s.getD k 0)=true->k<partN s):=by
 induction s with
 |nil=>intro k a;simp at a
 |cons b s ih=>
  intro k a d;cases k with
  |zero=>
   simp only[hK];refine⟨λh=>?_,λh=>?_⟩
   .unfold partN;rw[fz,h];rfl
   unfold partN;rw[fz,h];simp
  |succ k=>
   have c:=d 0 (by simp) (by omega);simp only[List.getElem_cons_zero]at c;have:=ih k (by simpa using a) (λj h f=>by have:=d (j+1) (by simpa using h) (by omega);simpa using this);have e:partN (b::s)=partN s+1:=by unfold partN;rw[fz,c];simp
   rw[e,List.getD_cons_succ];exact⟨λh=>by rw[this.1 h],λh=>by have:=this.2 h;omega⟩
theorem wU(s:Bs)(h:∀j(h:j<s.length),partB s[j]=true):partN s=s:=by
 have:∀l:Bs,(∀b∈l,partB b=true)->l.takeWhile partB=l:=by
  intro l;induction l with
  |nil=>intro _;rfl
  |cons b l ih=> intro a;rw[fz,a b he,if_pos rfl,ih λc f=>a c (g9 _ f)]
 unfold partN;rw[this s (λb d=>by obtain⟨j,g,e⟩:=List.getElem_of_mem d;rw[<- e];exact h j g)]
theorem uE(s:Bs)(w:er)(M:s.length<=1000000000):fb prog 283 #[S s,.func (.func 234) #[] #[],dq true] w λe w'=>e=da (J U (if partN s=s then -1 else(partN s:Int)))/\Bw w w':=by
 have a8:=Z M;obtain⟨R,r⟩:=Qe ((if partN s=s then(-1:Int)else(partN s:Int)));rw[r];have y:=Z r;clear M r;go_enter func283,ntmps283;go_wp2_with fail;have N:(w.alloc (.stringIter ⟨s.toArray⟩ 0)).heap[w.heap.size]?=X (.stringIter ⟨s.toArray⟩ 0):=eg w _;have a1:=Z N;have P:Hid (Bw w (w.alloc (.stringIter ⟨s.toArray⟩ 0))):=(em _ w).alloc (dz _) _;clear N;go_loopw [7,8] (λ_a _b wr=>Hid (Bw w wr)/\∃a:Nat,a<=s/\Hid (wr.heap[w.heap.size]?=X (.stringIter ⟨s.toArray⟩ a))/\Hid (∀j(h:j<s.length),j<a->partB s[j]=true)) (λ_ _ wr=>s-wr.iterPos w)
 exact⟨P,0,by omega,a1,λj h t=>by omega⟩;obtain⟨u,a,a9,i,o⟩:=hrel;have L:wr.iterPos w=a:=by simp[hb,i.o]
 have V:=Z L;clear L;by_cases hp:a<s;rotate_left
 .have a7:¬a<(⟨s.toArray⟩:ByteArray).size:=hp;have a5:∀b,(hu (.pointer w) true b).run prog wr=_:=λb=>hP wr w ⟨s.toArray⟩ a b i.o a7;have p:Hid (R= -1):=by unfold Hid;rw[<- y.o,if_pos (wU s (λj h=>o.o j h (by omega)))]
  go_wp2_with fail;go_ret;exact⟨(by rw[p.o];rfl),u.o⟩
 have a6:a<(⟨s.toArray⟩:ByteArray).size:=hp;have a5:∀b,(hu (.pointer w) true b).run prog wr=_:=λb=>hQ wr w ⟨s.toArray⟩ a b i.o a6;have I:=Lib.iterAt_heap wr w ⟨s.toArray⟩ a (a+(fc ⟨s.toArray⟩ a).2) i.o;have E:=Lib.below_iterAt u.o (k:=w.heap.size) (dz _) ⟨s.toArray⟩ (a+(fc ⟨s.toArray⟩ a).2);have G:fc ⟨s.toArray⟩ a=Lib.decodeL (s[a]::s.drop (a+1)):=by rw[ep,gP hp]
 have F:(fc ⟨s.toArray⟩ a).1<=1114111:=by rw[ep];exact Lib.decodeL_rune _
 have q:=zf s a hp o.o;have H:s.getD a 0=s[a]:=by simp[List.getD_eq_getElem?_getD,hp]
 rw[H]at q;have a4:(jE (fc ⟨s.toArray⟩ a).1=partB s[a])/\(partB s[a]=true->(fc ⟨s.toArray⟩ a).2=1):=by
  rw[G];by_cases h:s[a].toNat<128
  .rw[Lib.decodeL_ascii _ _ h];refine⟨?_,λ_=>rfl⟩;unfold jE;rw[decide_eq_true h,Bool.true_and];simp
  have A:=sN s[a] (s.drop (a+1)) (by omega);have d:partB s[a]=false:=by
   cases l:partB s[a]
   .rfl
   exact absurd (A5 _ l) h
  refine⟨?_,λl=>by rw[d]at l;cases l⟩;rw[d];unfold jE;rw[decide_eq_false (by omega)];rfl
 obtain⟨B,C⟩:=a4;have D:∀j(h:j<s.length),j<a+1->partB s[a]=true->partB s[j]=true:=λj h t A=>by
  rcases Nat.lt_or_ge j a with d|d
  .exact o j h d
  have:j=a:=by omega
  subst this;exact A
 have W:=Z D;have O:=Z q;have n:=Z (xq _ F);rw[B]at n;generalize partB s[a]=pb at*;generalize hW1:(wr.iterAt w ⟨s.toArray⟩ (a+(fc ⟨s.toArray⟩ a).2))=W1 at*;generalize hz:(fc ⟨s.toArray⟩ a).2=z at*;generalize(fc ⟨s.toArray⟩ a).1=c at*;have a3:=Z C;have T:=Z I;have g:=Z E;clear I E B C D q G F H hW1 hz;cases pb
 .have x:Hid (partN s=a):=O.1 rfl;have K:¬(partN s=s):=by rw[x.o];omega
  have p:Hid (R=a):=by unfold Hid;rw[<- y.o,if_neg K,x.o]
  clear K;go_wp2_with (go_at_call 234;(refine dy (n.o _) ?_;rintro e m⟨rfl,f⟩))
  go_ret;exact⟨(by rw[p.o];rfl),btr g.o f g.o.size⟩
 have a2:Hid (z=1):=a3 rfl;have a0:Hid (∀j(h:j<s.length),j<a+1->partB s[j]=true):=λj h t=>W j h t rfl;go_wp2_with (go_at_call 234;(refine dy (n.o _) ?_;rintro e m⟨rfl,f⟩))
 have Q:Hid (Bw w m):=btr g.o f g.size;have v:Hid (m.heap[w.heap.size]?=X (.stringIter ⟨s.toArray⟩ (a+1))):=by have:=T.o;rw[a2.o]at this;exact(f.block _ (Array.getElem?_eq_some_iff.1 this).1).trans this
 clear f;go_roundw
 case rel=>exact⟨Q,a+1,by omega,v,a0⟩
 have e1:m.iterPos w=a+1:=by simp[hb,v.o]
 rw[e1,V.o];omega
theorem uF(s:Bs)(w:er)(c:s.length<=1000000000):fb prog 233 #[S s,.func (.func 234) #[] #[]] w λe w'=>e=da (J U (if partN s=s then -1 else(partN s:Int)))/\Bw w w':=by
 have a:=Z (uE s w c);generalize(if partN s=s then(-1:Int)else(partN s:Int))=r at*;go_enter func233,ntmps233;go_wp2_with (go_at_call 283;(refine dy a.o ?_;rintro e w1⟨rfl,b⟩))
 go_ret;exact⟨rfl,b⟩
theorem xr(s:Bs):isbnGo s=(s.takeWhile partB).filter λb=> !(decide (b=32)||decide (b=45)):=by
 induction s with
 |nil=>rfl
 |cons b s ih=>
  unfold isbnGo;have c:partB b=(digitB b||xB b||decide (b=32∨b=45)):=by
   have:∀n<256,partB (e5 n)=(digitB (e5 n)||xB (e5 n)||decide (e5 n=32∨e5 n=45)):=by decide+kernel
   have:=this b b.toNat_lt;rwa[hM]at this
  have hn:(digitB b||xB b)=true->(!(decide (b=32)||decide (b=45)))=true:=by
   have:∀n<256,(digitB (e5 n)||xB (e5 n))=true->(!(decide (e5 n=32)||decide (e5 n=45)))=true:=by decide+kernel
   have:=this b b.toNat_lt;rwa[hM]at this
  rw[fz,c];by_cases h1:(digitB b||xB b)=true
  .rw[if_pos h1,h1,Bool.true_or,if_pos rfl,fl,hn h1,if_pos rfl,ih]
  rw[if_neg h1];have a:(digitB b||xB b)=false:=by simpa using h1
  rw[a,Bool.false_or];by_cases h2:b=32∨b=45
  .rw[if_pos h2,decide_eq_true h2,if_pos rfl,fl,ih];have:(!(decide (b=32)||decide (b=45)))=false:=by rcases h2 with rfl|rfl<;>rfl
   rw[this];rfl
  rw[if_neg h2,decide_eq_false h2];rfl
theorem kV(w:er):(callFunc 352 #[]).run prog w=.ok (.value (.tuple #[])) w:=run_call_mark0 func352 (by kernel_rfl) (by kernel_rfl) (by kernel_rfl) .disable (by kernel_rfl) w
theorem mK(w:er):(callFunc 354 #[]).run prog w=.ok (.value (.tuple #[])) w:=run_call_mark0 func354 (by kernel_rfl) (by kernel_rfl) (by kernel_rfl) .enable (by kernel_rfl) w
theorem tw(a:Addr)(w:er):(callFunc 355 #[dk (X a)]).run prog w=.ok (.value (.tuple #[])) w:=run_call_marked func355 (by kernel_rfl) (by kernel_rfl) (by kernel_rfl) .acquire (by kernel_rfl) a w
theorem rL(a:Addr)(w:er):(callFunc 357 #[dk (X a)]).run prog w=.ok (.value (.tuple #[])) w:=run_call_marked func357 (by kernel_rfl) (by kernel_rfl) (by kernel_rfl) .releaseMerge (by kernel_rfl) a w
theorem wA(a:Addr)(x:fp)(u:FrameMode)(w:er)(f:w.cell? a=X x)(h:w.frozen? a=false):
 CallsD prog 337 #[dk (X a),dq true] u w λe d w'=>d=u/\(e=da (.tuple #[])/\w'=w.drew.setCell a (J .u32 1)):=by
 have b:w.drew.cell? a=X x:=by go_simp
 have c:w.drew.frozen? a=false:=by go_simp
 have g:=run_call_store (P:=prog) func347 (by kernel_rfl) (by kernel_rfl) (by kernel_rfl) (by kernel_rfl) (k:=.u32) (y:=1) b c;go_enter_d func337,ntmps337
 go_wp2;go_region_calls
 all_goals(go_end0;exact⟨rfl,rfl⟩)
theorem tI(a:Addr)(u:FrameMode)(w:er)(b:w.cell? a=X (J dx 1))(c:w.frozen? a=false):
 CallsD prog 336 #[dk (X a)] u w λe d w'=>d=u/\(e=da (.tuple #[])/\w'=w.setCell a (J dx 0)):=by
 have h:=kV;have i:=mK;have j:=rL;have f:=run_call_add (P:=prog) func358 (by kernel_rfl) (by kernel_rfl) (by kernel_rfl) dx (by kernel_rfl) (y:= -1) (s:=0) b c (by simp[go_sem];rfl);have g:=run_convert_to_unsafe (P:=prog) (src:=427) (dst:=282) underlying427 underlying282 (by kernel_rfl) b;go_enter_d func336,ntmps336
 go_wp2;go_end0
 go_wp2;all_goals(go_end0;exact⟨rfl,rfl⟩)
theorem zu(a:Addr)(w:er)(b:w.cell? a=X (J dx 0))(d:w.frozen? a=false):
 fb prog 335 #[dk (X a)] w λe w'=>e=da (.tuple #[])/\w'=w.setCell a (J dx 1):=by
 have i:=kV;have j:=mK;have f:=tw;have g:=run_call_cas_hit (P:=prog) func353 (by kernel_rfl) (by kernel_rfl) (by kernel_rfl) dx (by kernel_rfl) (y:=1) b d;have c:(w.setCell a (J dx 1)).cell? a=X (J dx 1):=World.cell?_setCell_same w a _ b;have h:=run_convert_to_unsafe (P:=prog) (src:=427) (dst:=282) underlying427 underlying282 (by kernel_rfl) c;go_enter func335,ntmps335;go_wp2;first|go_end0|(simp only[Exit.inBlock,Exit.then];refine gx (results_none rfl _ _ _) rfl ?_)|refine gx (results_none rfl _ _ _) rfl ?_
 go_wp2;all_goals(go_end0;exact⟨rfl,rfl⟩)
theorem rV(a:Addr)(d:Int)(b:Bool)(f:(d !=0)=b)(w:er)(c:w.cell? a=X (J .u32 d)):fb prog 320 #[dk (X a)] w λe w'=>e=da (dq b)/\w'=w:=by
 have g:=run_call_load (P:=prog) func334 (by kernel_rfl) (by kernel_rfl) (by kernel_rfl) .u32 (by kernel_rfl) c;subst f;go_enter func320,ntmps320;go_wp2;go_ret;exact⟨rfl,rfl⟩
theorem xO(s:Bs)(c:UInt8)(w:er):fb prog 396 #[S s,S [c]] w λe w'=>e=da (s.count c)/\w'=w:=by
 have a:(c.toNat:Int).toNat.toUInt8=c:=by simp
 have b:∀W,(callFunc 398 #[S s,J ds c]).run prog W=.ok (.value (s.count c)) W:=λW=>by rw[run_callFunc_extern func398 (by kernel_rfl) (by kernel_rfl) (by kernel_rfl) (e:=Extern.BytealgCount.count) (by kernel_rfl),Lib.run_countString,a];rfl
 go_enter func396,ntmps396;go_wp2;go_ret;exact⟨rfl,rfl⟩
def kO(R:Nat)(v x:fp)(a:er->Prop)(S:er->er->Prop):Prop:=
 ∀w:er,a w->w.heap[R]?=X (cs #[J .u32 0,J dx 1,J .u32 0,.nilIface,v] 355 (0,0))->fb prog 289 #[.pointer R] w λe w'=>e=da (.tuple #[])/\w'.heap[R]?=X (cs #[J .u32 0,J dx 1,J .u32 0,x,dc Y 0 0] 355 (0,0))/\S w w'
theorem yO(R:Nat)(v x:fp)(i:er->Prop)(S:er->er->Prop)(j:kO R v x i S)(w:er)(k:∀w',aF R w w'->i w')(h:w.heap[R]?=X (cs #[J .u32 0,J dx 0,J .u32 0,.nilIface,v] 355 (0,0))):
 fb prog 321 #[.pointer R,.func (.func 289) #[.pointer R] #[]] w λe w'=>e=da (.tuple #[])/\∃w1 l:er,aF R w w1/\S w1 l/\aF R l w'/\w'.heap[R]?=X (cs #[J .u32 1,J dx 0,J .u32 0,x,dc Y 0 0] 355 (0,0)):=by
 have c:(w.setCell ⟨R,1,Y⟩ (J dx 1)).heap[R]?=X (cs #[J .u32 0,J dx 1,J .u32 0,.nilIface,v] 355 (0,0)):=aA h 1 (J dx 1);have d:aF R w (w.setCell ⟨R,1,Y⟩ (J dx 1)):=(aF.refl R w).setCell 1 _;have o:=Z (zu ⟨R,1,Y⟩ w ((ab h 1).trans rfl) (ae h 1));have m:=Z (j _ (k _ d) c);have p:=Z (rV R 0 false rfl _ ((ab c 0).trans rfl));have z:∀(x:Bool)(w:er),(Op.unary .not (dq x)).run prog w=.ok (dq (!x)) w:=λ_ _=>rfl;have n:=Z d;clear c d h j k;generalize w.setCell ⟨R,1,Y⟩ (J dx 1)=W1 at*;go_enter_defers func321,ntmps321
 go_wp2_with (first|(go_at_call 335;refine dy o.o ?_;rintro e w'⟨rfl,rfl⟩)|(go_at_call 320;refine dy p.o ?_;rintro e w'⟨rfl,rfl⟩)|(go_at_call 289;refine dy m.o ?_;rintro e a⟨rfl,b,s⟩))
 have y:=Z b;refine leaves_cons (f:=337) (args:= #[.pointer R,dq true]) (by simp) (by simp[go_sem]) ?_;refine(wA R (J .u32 0) .returning _ ((ab b 0).trans rfl) (ae b 0)).mono ?_;rintro e t u⟨rfl,rfl,rfl⟩;have g:(a.drew.setCell R (J .u32 1)).heap[R]?=X (cs #[J .u32 1,J dx 1,J .u32 0,x,dc Y 0 0] 355 (0,0)):=aA (w:=a.drew) b 0 (J .u32 1);refine leaves_cons (f:=336) (args:= #[dk (X ⟨R,1,Y⟩)]) (by simp[settle]) (by simp[go_sem]) ?_;refine(tI ⟨R,1,Y⟩ _ _ ((ab g 1).trans rfl) (ae g 1)).mono ?_;rintro e t u⟨rfl,rfl,rfl⟩;have r:=aA g 1 (J dx 0);have q:aF R a ((a.drew.setCell R (J .u32 1)).setCell ⟨R,1,Y⟩ (J dx 0)):=(((aF.refl R a).drew).setCell 0 _).setCell 1 _;simp[Leaves,settle,results,Tryz.results321];exact⟨_,n.o,_,s,q,r⟩
theorem CZ(R:Nat)(v x:fp)(a:er->Prop)(S:er->er->Prop)(b:kO R v x a S)(w:er)(c:∀w',aF R w w'->a w')(h:w.heap[R]?=X (cs #[J .u32 0,J dx 0,J .u32 0,.nilIface,v] 355 (0,0))):
 fb prog 288 #[.pointer R,.func (.func 289) #[.pointer R] #[]] w λe w'=>e=da (.tuple #[])/\∃w1 d:er,aF R w w1/\S w1 d/\aF R d w'/\w'.heap[R]?=X (cs #[J .u32 1,J dx 0,J .u32 0,x,dc Y 0 0] 355 (0,0)):=by
 have g:=Z (rV R 0 false rfl _ ((ab h 0).trans rfl));have f:=Z (yO R v x a S b w c h);have k:∀(x:Bool)(w:er),(Op.unary .not (dq x)).run prog w=.ok (dq (!x)) w:=λ_ _=>rfl;clear h b c;go_enter func288,ntmps288;go_wp2_with (first|(go_at_call 320;refine dy g.o ?_;rintro e w'⟨rfl,rfl⟩)|(go_at_call 321;refine dy f.o ?_;rintro e j⟨rfl,i⟩))
 go_end0
 exact⟨rfl,i⟩
def bigC(v:fp):Array fp:=Array.replicate 256 (dc Y 0 0)++ #[v]
theorem et(v:fp):(bigC v).size=257:=by simp[bigC]
theorem kL(v:fp)(k:Nat)(a:k<256):(bigC v)[k]?=X (dc Y 0 0):=by
 unfold bigC;rw[hr (by simpa using a)];simp[a]
theorem lK(v:fp):(bigC v)[256]?=X v:=by
 unfold bigC;rw[Array.getElem?_append_right (by simp)];simp
theorem vY(v u:fp):(bigC v).setIfInBounds 256 u=bigC u:=by
 apply Array.ext_getElem?;intro i;rw[Array.getElem?_setIfInBounds,et];by_cases h:256=i
 .subst h;simp[lK]
 rw[if_neg h];by_cases h2:i<256
 .rw[kL _ _ h2,kL _ _ h2]
 rw[hF (by rw[et];omega),hF (by rw[et];omega)]
theorem kK{w:er}{g:Nat}{v:fp}(h:w.heap[g]?=X (cs (bigC v) 403 (0,0))):w.cell? ⟨g,256,Y⟩=X v/\w.cell? ⟨g,45,Y⟩=X (dc Y 0 0)/\w.cell? ⟨g,32,Y⟩=X (dc Y 0 0):=
 ⟨(ab h 256).trans (lK v),(ab h 45).trans (kL v 45 (by decide)),(ab h 32).trans (kL v 32 (by decide))⟩
def gK(v e:fp):Array fp:=(bigC v).setIfInBounds 45 e
theorem oZ(v e:fp):(gK v e).size=257:=by unfold gK;rw[Array.size_setIfInBounds,et]
theorem Aq(v e u:fp):(gK v e).setIfInBounds 256 u=gK u e:=by
 unfold gK;rw[<- vY v u,Array.setIfInBounds_comm _ _ (by decide)]
theorem jl{w:er}{g:Nat}{v e:fp}(h:w.heap[g]?=X (cs (gK v e) 403 (0,0))):w.cell? ⟨g,256,Y⟩=X v/\w.cell? ⟨g,32,Y⟩=X (dc Y 0 0):=by
 refine⟨(ab h 256).trans ?_,(ab h 32).trans ?_⟩
 .unfold gK;rw[ex (by decide)];exact lK v
 unfold gK;rw[ex (by decide)];exact kL v 32 (by decide)
def nh(lo:Nat)(W:er)(g:Nat):Prop:=∃(a:Option Addr)(c b1 k1 b2 k2:Nat),W.heap[g]?=X (cs ((gK (dc a 2 c) (dc b1 0 k1)).setIfInBounds 32 (dc b2 0 k2)) 403 (0,0))/\W.ownsRow lo 9 1 (dc a 2 c) 2 [S [45],S [32]]
theorem yj:Tryz.zeroCells403=bigC (dc Y 0 0):=by kernel_rfl
theorem B9(v:fp):Tryz.zeroCells403.toList.set 256 v=(bigC v).toList:=by kernel_rfl
theorem ww(g:Nat)(a:Option Addr)(n k:Nat)(b:Array fp)(w:er)(h:w.heap[g]?=X (cs b 403 (0,0)))(d:b.size=257):
 ∃w',(storeCells g (Tryz.zeroCells403.toList.set 256 (dc a n k))).run prog w=.ok () w'/\w'.heap[g]?=X (cs (bigC (dc a n k)) 403 (0,0))/\aF g w w':=by
 have f:(bigC (dc a n k)).toList.length=257:=by rw[hJ,et]
 have j:∀v∈(bigC (dc a n k)).toList,v.oneCell'=true:=by intro v i;simp only[bigC,Array.toList_append,Array.toList_replicate,List.mem_append,List.mem_replicate,List.mem_singleton]at i;rcases i with⟨_,rfl⟩|rfl<;>rfl
 have c:=run_storeCells_at (P:=prog) g 0 403 (bigC (dc a n k)).toList 0 b w h (by rw[f,d];omega) j;rw[f]at c;have e:(b.toList.take (0+0)++(bigC (dc a n k)).toList++b.toList.drop (0+0+257)).toArray=bigC (dc a n k):=by
  have:b.toList.drop (0+0+257)=[]:=by apply List.drop_eq_nil_of_le;rw[hJ,d];omega
  rw[this];simp
 rw[e]at c;rw[B9];exact⟨w.setRow g (bigC (dc a n k)),c,setRow_heap w g b _ 403 (0,0) h,setRow_os _ _ _,setRow_tape _ _ _,setRow_output _ _ _,setRow_size _ _ _,λk l=>setRow_other w g k _ l⟩
theorem zT(w:er):(binOp .eql 76 (dc Y 0 0) (dc Y 0 0)).run prog w=.ok (dq true) w:=by kernel_rfl
theorem rQ(w:er):(binOp .neq 76 (dc Y 0 0) (dc Y 0 0)).run prog w=.ok (dq false) w:=by kernel_rfl
theorem oA(g n k:Nat)(w:er):(binOp .neq 76 (dc g n k) (dc Y 0 0)).run prog w=.ok (dq true) w:=by kernel_rfl
theorem mQ(W:er):∃(k:Nat)(W':er),(convert 9 76 (S [])).run prog W=.ok (dc W 0 k) W'/\Bw W W':=by
 refine⟨_,_,Lib.run_convert_string_bytes W 9 76 5 ⟨#[]⟩ underlying9 underlying76 underlying5,rfl,rfl,rfl,?_,λk a=>Lib.bytesWorld_at_old _ _ _ _ a⟩;rw[Lib.bytesWorld_size];omega
def onC(a:Array fp):Array fp:= #[S [32],S [],S [45],S []]++a
theorem iK(a:Array fp):(onC a)[0]?=X (S [32])/\(onC a)[1]?=X (S [])/\(onC a)[2]?=X (S [45])/\(onC a)[3]?=X (S []):=by
 unfold onC;refine⟨?_,?_,?_,?_⟩<;>(rw[hr (by simp)];rfl)
theorem Bi(w:er):(Instr.makeSlice 81 (J U 0) (J U 2)).run prog w=.ok (dc w 0 2) (w.alloc (cs #[S [],S []] 9)):=by kernel_rfl
theorem xZ(R on kk:Nat)(d:Array fp)(x y z q:fp)(w:er)(hR:w.heap[R]?=X (cs #[x,y,z,q,dc on 4 kk] 355 (0,0)))(t:w.heap[on]?=X (cs (onC d) 9 (0,0))):
 fb prog 322 #[.pointer R] w λe w'=>e=da (.iface 404 (dk (X ⟨w.heap.size+1,0,Y⟩)))/\Bw w w'/\nh w w' (w.heap.size+1)/\w.heap.size+1<w':=by
 have r4:w.cell? ⟨R,4,Y⟩=X (dc on 4 kk):=(ab hR 4).trans rfl;have n0:w.cell? on=X (S [32]):=(ab t 0).trans (iK d).1;have n1:w.cell? ⟨on,1,Y⟩=X (S []):=(ab t 1).trans (iK d).2.1;have n2:w.cell? ⟨on,2,Y⟩=X (S [45]):=(ab t 2).trans (iK d).2.2.1;have n3:w.cell? ⟨on,3,Y⟩=X (S []):=(ab t 3).trans (iK d).2.2.2;have HR:=Z hR;have HO:=Z t;clear hR t;go_enter func322,ntmps322;go_wp2_with fail;refine gt 3 ?_;rw[e8];go_wp2_with fail;rw[e8];go_wp2_with fail;rw[e8];go_upto_region 26 with fail;have b7:=Bi w;obtain⟨w1,F⟩:=Qe (w.alloc (cs #[S [],S []] 9));have V:w1.heap.size=w+1:=by rw[<- F];simp
 have b4:w1.heap[w.heap.size]?=X (cs #[S [],S []] 9 (0,0)):=by rw[<- F];exact eg w _
 have b5:Bw w w1:=by rw[<- F];exact(em _ w).alloc (dz _) _
 rw[F]at b7;obtain⟨l,T⟩:=Qe (w1.alloc (cs Tryz.zeroCells403 403));have b3:l.heap[w1.heap.size]?=X (cs Tryz.zeroCells403 403 (0,0)):=by rw[<- T];exact eg w1 _
 have ac:Bw w1 l:=by rw[<- T];exact(em _ w1).alloc (dz _) _
 obtain⟨a,b9,a8,b8⟩:=ww w1 w 0 2 _ l b3 (by rw[yj];exact et _);rw[V]at b9 a8;have c7:Hid (Bw w l):=b5.trans (ac.mono (by omega));have c5:Hid (l.heap[w.heap.size]?=X (cs #[S [],S []] 9 (0,0))):=(ac.block _ (by omega)).trans b4;have a3:Hid (aF (w.heap.size+1) l a):=by rw[<- V];exact b8
 have I:=Z a8;have ca:Hid (l.heap.size=w+2):=by unfold Hid;rw[<- T];simp[V]
 clear b3 ac a8 b8 b4 b5;go_wp2_with fail;have ad:Bw w a:=c7.o.trans (a3.o.below (by omega));have az:on<w:=af HO.o;have u:a.heap[on]?=X (cs (onC d) 9 (0,0)):=(ad.block _ az).trans HO.o;have v:a.heap[w.heap.size]?=X (cs #[S [],S []] 9 (0,0)):=(a3.o.block _ (by omega)).trans c5.o;obtain⟨cb,cc,_⟩:=kK I.o;have ci:=ae I.o 45;have ch:=ae I.o 256;have m0:a.cell? on=X (S [32]):=(ab u 0).trans (iK d).1;have m1:a.cell? ⟨on,1,Y⟩=X (S []):=(ab u 1).trans (iK d).2.1;have m2:a.cell? ⟨on,2,Y⟩=X (S [45]):=(ab u 2).trans (iK d).2.2.1;have m3:a.cell? ⟨on,3,Y⟩=X (S []):=(ab u 3).trans (iK d).2.2.2;have t0:a.cell? w=X (S []):=(ab v 0).trans rfl;have t1:a.cell? ⟨w,1,Y⟩=X (S []):=(ab v 1).trans rfl;have ft0:=ae v 0;have cj:=ae v 1;have aC:a.heap.size=w+2:=by rw[a3.o.size];exact ca.o
 have d3:¬(w.heap.size+1=w):=by omega
 have d4:¬(w.heap.size=w+1):=by omega
 have bl:=Z ad;have c0:=Z u;have c6:=Z v;have C:=Z aC;have c1:=Z az;clear ad az u v aC r4 n0 n1 n2 n3 V b7 b9 F T;have d2:=zT;obtain⟨i0,hi,bb,bc,bd⟩:=ht i9;have HI:=Z hi;have aT:=Z bb;have b0:=Z bc;have b1:=Z bd;have c2:Hid (a.ownsRow w 9 1 (dc w 0 2) 0 (([]:List Bs).map λs=>S s)):=⟨by simp,.inr ⟨w,2, #[S [],S []],rfl,dz _,c6.o,by omega,by unfold maxLen;omega,by simp,by simp⟩⟩;clear hi bb bc bd t0 t1 ft0 cj;refine gt 3 ?_;rw[e8];go_upto_region 33 with fail;go_wp2_with (at_builtin;go_loud ((refine gO _ rfl _ _ 81 rfl w 9 i0 (.string ⟨#[]⟩) 1 16 underlying81 HI.o aT.o b0.o b1.o rfl g1 (dc w 0 2) 0 (([]:List Bs).map λs=>S s) ?_ ?_ ⟨a.heap.size+1,0,Y⟩ 1 1 [S [45]] ?_ ?_ ?_ ?_ ?_ ?_ ?_ ?_);(focus rfl);(focus exact((c2.o.alloc _).alloc _));(focus rfl);(focus rfl);(focus exact iE _ _ _ _);(focus simp[gp]);(focus (unfold maxLen;omega));(focus omega);(focus (have:=C.o;simp;omega));intro v' c o n _ _;obtain⟨W,p,rfl⟩:=aw o;have D:c.heap[w.heap.size+1]?=X (cs (bigC (dc w 0 2)) 403 (0,0)):=(n.block _ (by have:=C.o;simp;omega) (λe=>(by have f:X (w.heap.size+1)=X w.heap.size:=e;simp at f))).trans (by rw[eQ _ _ _ (by have:=C.o;simp;omega),eQ _ _ _ (by have:=C.o;omega)];exact I.o);obtain⟨a6,b2,K⟩:=kK D;have a7:=ae D 256;have bk:=n.size;have L:=aA D 256 (dc W 1 p);rw[vY]at L;obtain⟨G,w5,av,al⟩:=mQ (c.setCell ⟨w.heap.size+1,256,Y⟩ (dc W 1 p));have O:w5.heap[w.heap.size+1]?=X (cs (bigC (dc W 1 p)) 403 (0,0)):=(al.block _ (af L)).trans L;obtain⟨_,b2,K⟩:=kK O;have cm:=ae O 45;have bt:=Z D;have bA:=Z O;have a0:=Z al;have a4:=Z o;have a2:=Z n;clear D O L al o n bk))
 have aC:=C.o;have bk:a.heap.size+2<=c:=by have:=a2.o.size;simpa using this
 have cv:c.heap.size<=w5:=by have:=a0.o.size;simpa using this
 obtain⟨b,rfl,N⟩:∃b,W=X ⟨b,0,Y⟩/\w<=b/\b≠w+1/\b<c:=by
  obtain⟨g,cd,k,ax,ay⟩:=g0 a4.o (by omega);injection k with k _ _
  obtain⟨cu,au⟩:=aK a4.o (g:=g) (by rw[k];rfl);exact⟨g,k,ax,dw au bt.o (by decide),ay⟩
 obtain⟨h,A⟩:=Qe (w5.setCell ⟨w.heap.size+1,45,Y⟩ (dc c 0 G));have a9:h.heap[w.heap.size+1]?=X (cs (gK (dc (X ⟨b,0,Y⟩) 1 p) (dc c 0 G)) 403 (0,0)):=by rw[<- A];exact aA bA.o 45 _
 have Q:∀q,q<c.heap.size->q≠w+1->h.heap[q]?=c.heap[q]?:=λq hq hn=>by rw[<- A,gd _ _ _ _ hn,a0.o.block q (by simpa using hq),gd _ _ _ _ hn]
 have d5:c.heap.size<=h:=by rw[<- A];simpa using cv
 have aa:h.heap[on]?=X (cs (onC d) 9 (0,0)):=by have:=c1.o;rw[Q on (by omega) (by omega),a2.o.block on (by simp;omega) (λe=>(by have f:X on=X w.heap.size:=e;injection f with f;omega)),eQ _ _ _ (by simp;omega),eQ _ _ _ (by omega)];exact c0.o
 have p0:h.cell? on=X (S [32]):=(ab aa 0).trans (iK d).1;have p1:h.cell? ⟨on,1,Y⟩=X (S []):=(ab aa 1).trans (iK d).2.1;obtain⟨d8,d9⟩:=jl a9;have c3:Hid (h.ownsRow w 9 1 (dc (X ⟨b,0,Y⟩) 1 p) 1 (([[45]]:List Bs).map λs=>S s)):=aj a4.o (λg hg=>by
  have f:b=g:=by have:X b=X g:=hg;injection this
  subst f;exact Q _ N.2.2 N.2.1)
 have bB:=Z a9;have cz:=Z Q;have cy:=Z N;have c9:=Z A;rw[A];clear A Q a9 aa av a6 b2 K a7 cm cb cc ci ch m0 m1 m2 m3;obtain⟨cP,cQ,d0⟩:=N;rw[e8];go_upto_region 33 with fail;go_wp2_with (at_builtin;go_loud ((refine gO _ rfl _ _ 81 rfl w 9 i0 (.string ⟨#[]⟩) 1 16 underlying81 HI.o aT.o b0.o b1.o rfl g1 (dc (X ⟨b,0,Y⟩) 1 p) 1 (([[45]]:List Bs).map λs=>S s) ?_ ?_ ⟨h.heap.size+1,0,Y⟩ 1 1 [S [32]] ?_ ?_ ?_ ?_ ?_ ?_ ?_ ?_);(focus rfl);(focus exact((c3.o.alloc _).alloc _));(focus rfl);(focus rfl);(focus exact iE _ _ _ _);(focus simp[gp]);(focus (unfold maxLen;omega));(focus omega);(focus (simp;omega));intro v' i o n _ _;obtain⟨vb,vd,rfl⟩:=aw o;have E:i.heap[w.heap.size+1]?=X (cs (gK (dc (X ⟨b,0,Y⟩) 1 p) (dc c 0 G)) 403 (0,0)):=(n.block _ (by simp;omega) (λe=>(by have f:X (w.heap.size+1)=X b:=e;injection f with f;omega))).trans (by rw[eQ _ _ _ (by simp;omega),eQ _ _ _ (by omega)];exact bB.o);obtain⟨a6,K⟩:=jl E;have a7:=ae E 256;have M:=aA E 256 (dc vb 2 vd);rw[Aq]at M;obtain⟨k9,H,av,ao⟩:=mQ (i.setCell ⟨w.heap.size+1,256,Y⟩ (dc vb 2 vd));have P:H.heap[w.heap.size+1]?=X (cs (gK (dc vb 2 vd) (dc c 0 G)) 403 (0,0)):=(ao.block _ (af M)).trans M;obtain⟨_,cg⟩:=jl P;have cl:=ae P 32;have bO:=Z E;have bY:=Z P;have a1:=Z ao;have a5:=Z o;have aS:=Z n;clear E P M ao o n))
 obtain⟨m,rfl,d1,cp,cq⟩:∃m,vb=X ⟨m,0,Y⟩/\w<=m/\m≠w+1/\m<i:=by
  obtain⟨g,cd,k,ax,ay⟩:=g0 a5.o (by omega);injection k with k _ _
  obtain⟨cu,au⟩:=aK a5.o (g:=g) (by rw[k];rfl);exact⟨g,k,ax,dw au bO.o (by decide),ay⟩
 have d6:h.heap.size+2<=i:=by have:=aS.o.size;simpa using this
 have d7:i.heap.size<=H:=by have:=a1.o.size;simpa using this
 obtain⟨r,B⟩:=Qe (H.setCell ⟨w.heap.size+1,32,Y⟩ (dc i 0 k9));have b6:∀q,q<i.heap.size->q≠w+1->r.heap[q]?=i.heap[q]?:=λq hq hn=>by rw[<- B,gd _ _ _ _ hn,a1.o.block q (by simpa using hq),gd _ _ _ _ hn]
 have c4:Hid (nh w r (w.heap.size+1)):=⟨X ⟨m,0,Y⟩,vd,c,G,i,k9,by rw[<- B];exact aA bY.o 32 _,aj a5.o (λg hg=>by
  have f:m=g:=by have:X m=X g:=hg;injection this
  subst f;exact b6 _ cq cp)⟩
 have bs:Hid (Bw w r):=by
  have h3:Bw w a:=bl.o;have h4:Bw w c:=(((h3.alloc (by omega) _).alloc (by simp;omega) _)).grown a2.o (by simp;omega) (λj ej=>by have f:w=j:=by{have:X w.heap.size=X j:=ej;injection this};omega);have h5:Bw w w5:=(h4.setCell (by simp) _).trans (a0.o.mono (by simp;omega));have h6:Bw w h:=by rw[<- c9.o];exact h5.setCell (by simp) _
  have h8:Bw w i:=(((h6.alloc (by omega) _).alloc (by simp;omega) _)).grown aS.o (by simp;omega) (λj ej=>by have f:b=j:=by{have:X b=X j:=ej;injection this};omega);have h9:Bw w H:=(h8.setCell (by simp) _).trans (a1.o.mono (by simp;omega));have:Bw w (H.setCell ⟨w.heap.size+1,32,Y⟩ (dc i 0 k9)):=h9.setCell (by simp) _;rw[B]at this;exact this
 have cx:w.heap.size+1<r:=by rw[<- B];simp;omega
 rw[B];clear B b6 av a6 K cg a7 cl;rw[e8];go_wp2_with fail;go_ret;exact⟨rfl,bs.o,c4.o,cx⟩
theorem zl(R on f N:Nat)(k:Array fp)(B:R<N):kO R (dc on 4 f) (.iface 404 (dk (X ⟨N+1,0,Y⟩)))
 (λw=>w=N/\w.heap[on]?=X (cs (onC k) 9 (0,0))) (λw w'=>ai (λq=>q=R) w (λq=>q=R) w'/\nh N w' (N+1)):=by
 intro w A h;obtain⟨rfl,m⟩:=A;have p:=Z (xZ R on f k _ _ _ _ w h m);have r:=Z h;clear h m;go_enter func289,ntmps289;go_wp2_with (go_at_call 322;refine dy p.o ?_;rintro e d⟨rfl,i,n,K⟩;have b:d.heap[R]?=X (cs #[J .u32 0,J dx 1,J .u32 0,.nilIface,dc on 4 f] 355 (0,0)):=(i.block R B).trans r.o;have F:d.cell? ⟨R,3,Y⟩=X .nilIface:=(ab b 3).trans rfl;have G:d.cell? ⟨R,4,Y⟩=X (dc on 4 f):=(ab b 4).trans rfl;have H:=ae b 3;have I:=ae b 4;have s:=Z b;have o:=Z i;have t:=Z n;clear b i n)
 refine bodyPost_end (results_none rfl _ _ _) rfl ?_;have y:=aA s.o 3 (.iface 404 (dk (X ⟨w.heap.size+1,0,Y⟩)));have z:=aA y 4 (dc Y 0 0);have j:aF R d ((d.setCell ⟨R,3,Y⟩ (.iface 404 (dk (X ⟨w.heap.size+1,0,Y⟩)))).setCell ⟨R,4,Y⟩ (dc Y 0 0)):=((aF.refl R d).setCell 3 _).setCell 4 _;refine⟨rfl,z,(ai.of_below o.o).trans (ai.of_only j rfl),?_⟩;obtain⟨a,c,u,D,v,E,x,l⟩:=t.o;exact⟨a,c,u,D,v,E,(j.block _ (by omega)).trans x,aj l (λg C=>j.block g (λe=>by have:=(l.lt g C).1;omega))⟩
theorem Bc(w:er)(A:Nat)(b:w.heap[A]?=X (cs #[S [32],S [],S [45],S []] 9 (0,0))):fb prog 237 #[dc (X ⟨A,0,Y⟩) 4 4] w λe w'=>∃R on a c,e=da (dk (X ⟨R,0,Y⟩))/\w.heap.size<=R/\w.heap.size<=on/\R≠on/\
 w'.heap[R]?=X (cs #[J .u32 0,J dx 0,J .u32 0,.nilIface,dc (X ⟨on,0,Y⟩) 4 a] 355 (0,0))/\w'.heap[on]?=X (cs (onC c) 9 (0,0))/\Bw w w':=by
 have d:w.cell? ⟨A,0,Y⟩=X (S [32]):=(ab b 0).trans rfl;have f:w.cell? ⟨A,1,Y⟩=X (S []):=(ab b 1).trans rfl;have g:w.cell? ⟨A,2,Y⟩=X (S [45]):=(ab b 2).trans rfl;have h:w.cell? ⟨A,3,Y⟩=X (S []):=(ab b 3).trans rfl;clear b;go_enter func237,ntmps237;go_wp2_with fail;generalize(Question.appendCap 4 0 9).cut (w.tape w.drawn (Question.appendCap 4 0 9))=a;refine gx (v:=dk (X ⟨w.heap.size+1,0,Y⟩)) (by rw[results_tmp rfl];go_simp) rfl ?_;refine⟨w.heap.size+1,w.heap.size,a,Builtin.zeroCells #[gq {data:= #[]}] (a-4),rfl,by omega,dz _,by omega,?_,?_,?_⟩
 .have:=eg (w.alloc (cs (#[S [32],S [],S [45],S []]++Builtin.zeroCells #[gq {data:= #[]}] (a-4)) 9)) (cs #[J .u32 0,J dx 0,J .u32 0,.nilIface,dc (X ⟨w.heap.size,0,Y⟩) 4 a] 355);rw[e9]at this;exact this
 .show((w.alloc _).alloc _).heap[w.heap.size]?=_;rw[eQ _ _ _ (by simp)];exact eg w _
 exact(((em _ w).alloc (dz _) _).alloc (by simp) _).drew
def fA(b:UInt8):Bool:=decide (b=32)||decide (b=45)
def keepL(s:Bs):Bs:=s.filter λb=> !fA b
def cntL(s:Bs):Nat:=s.count 45+s.count 32
theorem xn(b:UInt8)(s:Bs):keepL (b::s)=if fA b then keepL s else b::keepL s:=by
 unfold keepL;rw[fl];cases fA b<;>rfl
theorem Af(b:UInt8)(s:Bs):cntL (b::s)=cntL s+if fA b then 1 else 0:=by
 unfold cntL;rw[List.count_cons,List.count_cons];by_cases h1:b=32
 .subst h1;have c:((32:UInt8)==45)=false:=rfl;have a:fA 32=true:=rfl;simp[c,a];omega
 by_cases h2:b=45
 .subst h2;have c:((45:UInt8)==32)=false:=rfl;have a:fA 45=true:=rfl;simp[c,a];omega
 have a:fA b=false:=by unfold fA;rw[decide_eq_false h1,decide_eq_false h2];rfl
 simp[h1,h2,a]
theorem ic(s:Bs):(keepL s).length+cntL s=s:=by
 induction s with
 |nil=>rfl
 |cons b s ih=> rw[xn,Af,es];cases fA b<;>simp<;>omega
theorem zA{s:Bs}(h:cntL s=0):keepL s=s:=by
 have a:=ic s;rw[h]at a;exact List.filter_eq_self.2 (λb c=>by have:(s.filter λb=> !fA b).length=s:=a;exact List.length_filter_eq_length_iff.1 this b c)
theorem kr{s:Bs}{k:Nat}(a:k<s):keepL (s.take (k+1))=keepL (s.take k)++(if fA s[k]then[]else[s[k]]):=by
 unfold keepL;rw[hj a,hf,fl];cases fA s[k]<;>rfl
theorem Ae{s:Bs}{k:Nat}(c:k<s):cntL (s.take (k+1))=cntL (s.take k)+(if fA s[k]then 1 else 0):=by
 have a:=ic (s.take (k+1));have b:=ic (s.take k);rw[kr c,eb]at a;rw[e6]at a b;have:min (k+1) s.length=k+1:=by omega
 have:min k s.length=k:=by omega
 cases hs:fA s[k]<;>simp[hs]at a ⊢ <;>omega
theorem qh(s:Bs)(k:Nat):(keepL (s.take k)).length<=(keepL s).length:=by
 have:keepL s=keepL (s.take k)++keepL (s.drop k):=by unfold keepL;rw[<- hf,hH]
 rw[this,eb];omega
def byteRow(l:Bs):Array fp:=(l.map λb=>g7 ds b.toNat).toArray
def jk(s:Bs)(k:Nat):Bs:=keepL (s.take k)++gs ((keepL s).length-(keepL (s.take k)).length) 0
theorem tn(s:Bs)(k:Nat):(jk s k).length=(keepL s).length:=by
 unfold jk;have:=qh s k;rw[eb,List.length_replicate];omega
theorem x8(s:Bs):jk s 0=gs (keepL s).length 0:=by unfold jk;simp[keepL]
theorem An(s:Bs):jk s s=keepL s:=by unfold jk;simp
theorem x9{s:Bs}{k:Nat}(b:k<s)(h:fA s[k]=true):jk s (k+1)=jk s k/\(keepL (s.take (k+1))).length=(keepL (s.take k)).length:=by
 have a:keepL (s.take (k+1))=keepL (s.take k):=by rw[kr b,if_pos h,ho]
 unfold jk;rw[a];exact⟨rfl,rfl⟩
theorem Am{s:Bs}{k:Nat}(c:k<s)(h:fA s[k]=false):jk s (k+1)=(jk s k).set (keepL (s.take k)).length s[k]/\(keepL (s.take (k+1))).length=(keepL (s.take k)).length+1/\(keepL (s.take k)).length<(keepL s).length:=by
 have a:keepL (s.take (k+1))=keepL (s.take k)++[s[k]]:=by rw[kr c,h];rfl
 have b:=qh s (k+1);rw[a,eb]at b;simp only[hI]at b;refine⟨?_,by rw[a];simp,by omega⟩;unfold jk;rw[a,eb,hI];obtain⟨m,d⟩:∃m,(keepL s).length-(keepL (s.take k)).length=m+1:=⟨(keepL s).length-(keepL (s.take k)).length-1,by omega⟩;have e:(keepL s).length-((keepL (s.take k)).length+1)=m:=by omega
 rw[d,e,List.replicate_succ,List.set_append_right _ _ (dz _),Nat.sub_self,List.set_cons_zero,List.append_assoc];rfl
theorem tm(l:Bs)(k:Nat)(b:UInt8):(byteRow l).setIfInBounds k (J ds b)=byteRow (l.set k b):=by
 unfold byteRow;rw[List.setIfInBounds_toArray,List.map_set]
theorem jR(l:Bs):(byteRow l).size=l.length:=by simp[byteRow]
theorem Bj(n:Nat)(hn:n<=1000000000)(w:er):(Instr.makeSlice 76 n n).run prog w=.ok (dc w n n) (w.alloc (cs (byteRow (gs n 0)) 5)):=by
 obtain⟨i,b,d,c,a⟩:=ht (show(prog.info? 5).map (λi=>(i.zero,i.size,i.bytes))=X (X (J ds 0),1,1) by kernel_rfl);rw[run_make w 76 5 i (J ds 0) underlying76 b d U U n n (by omega) (by omega) (by rw[a];omega) (by omega)];have:madeCells (g7 ds 0).cells ((n:Int).toNat*i.size)=byteRow (gs n 0):=by
  rw[c];unfold byteRow;apply Array.ext
  .simp[madeCells]
  intro j e f;simp[madeCells,Value.cells,Nat.mod_one]
 rw[this];rfl
structure Az(g bt rc:Nat)(W:er):Prop where
 sep:∀b:UInt8,fA b=true->∃q k:Nat,W.cell? ⟨g,b,none⟩=some (.slice q 0 k)
 no:∀b:UInt8,fA b=false->W.cell? ⟨g,b,none⟩=some (.slice none 0 0)
 all:W.cell? ⟨g,256,none⟩=some (.slice bt 2 rc)
 one:W.cell? bt=some (S [45])
 two:W.cell? ⟨bt,1,none⟩=some (S [32])
theorem nh.cells{lo g:Nat}{w:er}(h:nh lo w g):∃c f,∀W,Bw w W->Az g c f W:=by
 obtain⟨z,f,k,o,l,p,m,i⟩:=h;obtain⟨c,u,j,v,x⟩:=g0 i (by omega);injection j with j _ hc
 subst j;refine⟨c,f,λW a=>?_⟩;have d:=(a.block _ (af m)).trans m;have n:=aj i (λq t=>a.block q (i.lt q t).2);have y:((gK (dc (X ⟨c,0,Y⟩) 2 f) (dc k 0 o)).setIfInBounds 32 (dc l 0 p)).size=257:=by rw[Array.size_setIfInBounds,oZ]
 refine⟨λb a=>?_,λb a=>?_,?_,?_,?_⟩
 .rcases(by simpa[fA]using a:b=32∨b=45)with rfl|rfl
  .refine⟨l,p,(ab d _).trans ?_⟩;show((gK _ _).setIfInBounds 32 _)[32]?=_;rw[Array.getElem?_setIfInBounds_self_of_lt (by rw[oZ];omega)]
  refine⟨k,o,(ab d _).trans ?_⟩;show((gK _ _).setIfInBounds 32 _)[45]?=_;rw[ex (by decide)];unfold gK;rw[Array.getElem?_setIfInBounds_self_of_lt (by rw[et];omega)]
 .have r:b≠32:=λe=>by subst e;cases a
  have s:b≠45:=λe=>by subst e;cases a
  refine(ab d _).trans ?_;rw[ex (show(32:Nat)≠b fromλe=>r (UInt8.toNat_inj.1 (show b=(32:UInt8).toNat from e.symm)))];unfold gK;rw[ex (show(45:Nat)≠b fromλe=>s (UInt8.toNat_inj.1 (show b=(45:UInt8).toNat from e.symm)))];exact kL _ _ b.toNat_lt
 .refine(ab d _).trans ?_;rw[ex (by decide)];unfold gK;rw[ex (by decide)];exact lK _
 .have:=n.cellAt 0 (by simp);exact this.trans rfl
 have:=n.cellAt 1 (by simp);exact this.trans rfl
theorem xP(a:Option Addr)(n c q k:Nat)(w:er):(Builtin.copy_ #[76,76] 3 #[dc a n c,dc q 0 k]).run prog w=.ok (J U 0) w:=by
 cases hq:prog.info? 5 with
 |none=>exact absurd hq (by decide+kernel)
 |some i=>cases a<;>simp[Builtin.copy_,run_underlying underlying76,Builtin.lenOf,Builtin.firstCells,Go.sizeOf,typeInfo,hq,loadCellsFrom,storeCells,loadCells,goInt]
theorem w64(x:Int)(a: -9223372036854775808<=x)(b:x<=9223372036854775807):wrap64 x=x:=IntWalk.wrap64_in x ⟨a,b⟩
theorem rJ(lo g:Nat)(s:Bs)(w:er)(h:nh lo w g)(hs:s.length<=1000000000):fb prog 394 #[dk (X ⟨g,0,Y⟩),S s] w λe w'=>e=da (S (keepL s))/\Bw w w':=by
 obtain⟨bt,rc,a9⟩:=h.cells;have D:=Z a9;have bw:g<w.heap.size:=by obtain⟨_,_,_,_,_,_,hG,_⟩:=h;exact af hG
 obtain⟨K,R⟩:=Qe (keepL s);obtain⟨N,hN⟩:=Qe K.length;obtain⟨m,hm⟩:=Qe (decide (cntL s≠0));have l:=Z R;have E:=Z hN;have HM:=Z hm;have az:N+cntL s=s.length:=by rw[<- hN,<- R];exact ic s
 have al:=Z az;have b7:N<=1000000000:=by omega
 obtain⟨_,_,b3,t0,t1⟩:=a9 w (em _ w);rw[R];clear h a9 R hN hm az;go_enter func394,ntmps394;go_upto_if 26 with fail;go_cut [5,6] (λn y wx=>n=J U N/\y=dq m/\∃k,wx=w.drewN k)
 case first=>
  by_cases hL:(16:Int)<=s.length;rotate_left
  .have hd:decide ((16:Int)<=s.length)=false:=decide_eq_false hL;have bc:=rQ;have bd:=oA;go_wp2_with fail;go_loopw [5,6,10,11] (λn y i _b wr=>wr=w/\∃k:Nat,k<=s.length/\i=J U k/\n=J U ((s.length-cntL (s.take k):Nat):Int)/\y=dq (decide (cntL (s.take k)≠0))) (λ_ _ i _ _=>s.length-(intOf i).toNat)
   exact⟨rfl,0,gb _,rfl,by simp[cntL],by simp[cntL]⟩;obtain⟨rfl,k,hk,rfl,rfl,rfl⟩:=hrel;by_cases hlt:k<s.length;rotate_left
   .have ay:s.take k=s:=g3 (by omega);rw[ay];have b:Hid (s.length-cntL s=N/\decide (cntL s≠0)=m):=⟨by have:=al.o;omega,HM.o⟩;obtain⟨p,F⟩:=Qe (cntL s);rw[F]at b ⊢;obtain⟨P,o⟩:=Qe (s.length-p);obtain⟨z,t⟩:=Qe (decide (p≠0));rw[o,t]at b ⊢;clear F o t ay;go_wp2_with fail;go_meet;exact⟨by rw[b.o.1],by rw[b.o.2],0,rfl⟩
   have b9:(k:Int)<s.length:=by omega
   obtain⟨x,G⟩:=Qe (s[k]);have f:=Ae hlt;rw[G]at f;have aa:cntL (s.take k)<=k:=by have:=ic (s.take k);rw[e6]at this;omega
   obtain⟨p,F⟩:=Qe (cntL (s.take k));rw[F]at f aa ⊢;have bk:=nU x;have bl:=yy x;obtain⟨P,o⟩:=Qe (s.length-p);obtain⟨z,t⟩:=Qe (decide (p≠0));have HP:=Z o;have HZ:=Z t;rw[o,t];cases hsx:fA x
   .have a8:=(D wr (em _ wr)).no x hsx;rw[hsx]at f;have b:Hid (cntL (s.take (k+1))=p):=f;clear f F hsx o t;go_wp2_with fail;go_roundw;exact⟨trivial,k+1,by omega,by go_num,by rw[b.o,HP.o],by rw[b.o,HZ.o]⟩;simp[intOf];omega
   obtain⟨q,kq,a8⟩:=(D wr (em _ wr)).sep x hsx;rw[hsx]at f;have b:Hid (cntL (s.take (k+1))=p+1):=f;have hw:IntKind.i64.wrap ((P:Int)+ -1)=((P-1:Nat):Int):=(fy _ (by omega)).trans (by omega);clear f F hsx o t;go_wp2_with fail;go_roundw
   case rel=>exact⟨trivial,k+1,by omega,by go_num,by rw[b.o,<- HP.o,Nat.sub_sub],by rw[b.o];rfl⟩
   simp[intOf];omega
  have hd:decide ((16:Int)<=s.length)=true:=decide_eq_true hL;have a4:Hid (∀(c:UInt8)W,fb prog 396 #[S s,S [c]] W λe w'=>e=da (J U (s.count c))/\w'=W):=λc W=>xO s c W;have HA:Hid (∀W,fb prog 396 #[S s,S [45]] W λe w'=>e=da (J U (s.count 45))/\w'=W):=λW=>a4 45 W;have M:Hid (∀W,fb prog 396 #[S s,S [32]] W λe w'=>e=da (J U (s.count 32))/\w'=W):=λW=>a4 32 W;have a2:=al.o;have a5:=HM.o;unfold cntL at a2 a5;obtain⟨q1,j1,b5⟩:=(D w (em _ w)).sep 45 rfl;obtain⟨q2,j2,b4⟩:=(D w (em _ w)).sep 32 rfl;change w.cell? ⟨g,45,Y⟩=_ at b5;change w.cell? ⟨g,32,Y⟩=_ at b4;generalize s.count 45=A at*;generalize s.count 32=B at*;clear a4;have e0:IntKind.i64.wrap ((A:Int)* -1)= -(A:Int):=by rw[Int.mul_neg_one];exact fy _ (by omega)
  have e1:IntKind.i64.wrap ((s.length:Int)+ -(A:Int))=((N+B:Nat):Int):=(fy _ (by omega)).trans (by omega);have e2:IntKind.i64.wrap ((B:Int)* -1)= -(B:Int):=by rw[Int.mul_neg_one];exact fy _ (by omega)
  have e3:IntKind.i64.wrap (((N+B:Nat):Int)+ -(B:Int))=(N:Int):=(fy _ (by omega)).trans (by omega);have e4:A=0->IntKind.i64.wrap ((s.length:Int)+ -(B:Int))=(N:Int):=λh=>(fy _ (by omega)).trans (by omega);have aT:=Z e4;have L:=Z a2;have a1:=Z a5;clear e4 a2 a5;go_wp2_with fail;refine gt 3 ?_;rw[e8];by_cases hA:A=0
  .have b6:((A:Int)!=0)=false:=by simp[hA]
   have e4:=aT hA;have I:=Z hA;clear hA;go_wp2_with (go_at_call 396;(refine dy (HA.o _) ?_;rintro e w1⟨rfl,rfl⟩))
   rw[e8];by_cases hB:B=0
   .have a3:((B:Int)!=0)=false:=by simp[hB]
    have b:Hid (s.length=N/\false=m):=⟨by have:=L.o;have:=I.o;omega,by rw[<- a1.o,I.o,hB];rfl⟩;clear hB;go_wp2_with (go_at_call 396;(refine dy (M.o _) ?_;rintro e w1⟨rfl,rfl⟩))
    rw[e8];go_wp2_with fail;go_meet;exact⟨by rw[b.o.1],by rw[b.o.2],0,rfl⟩
   have a3:((B:Int)!=0)=true:=by simp;omega
   have b:Hid (true=m):=by unfold Hid;rw[<- a1.o];simp;omega
   clear hB;go_wp2_with (go_at_call 396;(refine dy (M.o _) ?_;rintro e w1⟨rfl,rfl⟩))
   go_region;go_wp2_with fail;rw[e8];go_wp2_with fail;go_meet;exact⟨congrArg (g7 U) (by have h1:=L.o;have h2:=I.o;rw[w64 (-(B:Int)) (by omega) (by omega),w64 _ (by omega) (by omega)];omega),by rw[b.o],1,rfl⟩
  have b6:((A:Int)!=0)=true:=by simp;omega
  have b:Hid (true=m):=by unfold Hid;rw[<- a1.o];simp;omega
  have I:=Z hA;clear hA;go_wp2_with (go_at_call 396;(refine dy (HA.o _) ?_;rintro e w1⟨rfl,rfl⟩))
  go_region;go_wp2_with fail;rw[e8];by_cases hB:B=0
  .have a3:((B:Int)!=0)=false:=by simp[hB]
   have a0:=Z hB;clear hB;go_wp2_with (go_at_call 396;(refine dy (M.o _) ?_;rintro e w1⟨rfl,rfl⟩))
   rw[e8];go_wp2_with fail;go_meet;exact⟨congrArg (g7 U) (by have h1:=L.o;have h2:=a0.o;rw[w64 (-(A:Int)) (by omega) (by omega),w64 _ (by omega) (by omega)];omega),by rw[b.o],1,rfl⟩
  have a3:((B:Int)!=0)=true:=by simp;omega
  clear hB;go_wp2_with (go_at_call 396;(refine dy (M.o _) ?_;rintro e w1⟨rfl,rfl⟩))
  go_region;go_wp2_with fail;rw[e8];go_wp2_with fail;go_meet;exact⟨congrArg (g7 U) (by have h1:=L.o;rw[w64 (-(A:Int)) (by omega) (by omega),w64 (-(B:Int)) (by omega) (by omega),w64 ((s.length:Int)+ -(A:Int)) (by omega) (by omega),w64 _ (by omega) (by omega)];omega),by rw[b.o],2,rfl⟩
 obtain⟨rfl,rfl,nq,rfl⟩:=hcut;have a7:Bw w (w.drewN nq):=bF.below (w:=w) (w':=w.drewN nq) ⟨nq, #[],by rw[Sort.grow_empty]⟩;obtain⟨d,au⟩:=Qe (w.drewN nq);rw[au]at a7 ⊢;have O:=Z a7;clear a7 au b3 t0 t1;cases m
 .have b1:Hid (K=s):=by unfold Hid;rw[<- l.o];exact zA (by have:=HM.o;simpa using this)
  go_wp2_with fail;go_ret;exact⟨(by rw[b1.o];rfl),O.o⟩
 have bb:=Bj N b7 d;have c1:(0:Int)<=N:=by omega
 obtain⟨w1,T⟩:=Qe (d.alloc (cs (byteRow (gs N 0)) 5));have av:Bw w w1:=by rw[<- T];exact O.o.alloc O.o.size _
 have ao:w1.heap[d.heap.size]?=X (cs (byteRow (gs N 0)) 5 (0,0)):=by rw[<- T];exact eg d _
 rw[T]at bb;have a0:=Z av;have aC:=Z ao;clear av ao T;go_wp2_with fail;go_loopw [13,14,15] (λj i _b wr=>∃k:Nat,k<=s.length/\i=J U k/\j=J U (keepL (s.take k)).length/\Hid (Bw w wr)/\Hid (wr.heap[d.heap.size]?=X (cs (byteRow (jk s k)) 5 (0,0)))) (λ_ i _ _=>s.length-(intOf i).toNat)
 case atStart=>exact⟨0,gb _,rfl,by simp[keepL],a0,by unfold Hid;rw[x8,l.o,E.o];exact aC.o⟩
 obtain⟨k,hk,rfl,rfl,C,v⟩:=hrel;by_cases hlt:k<s.length;rotate_left
 .have ax:k=s.length:=by omega
  have b0:Hid (wr.heap[d.heap.size]?=X (cs (byteRow K) 5 (0,0))):=by have:=v.o;rw[ax,An,l.o]at this;exact this
  have b8:=run_convert_bytes_back (P:=prog) wr 76 9 5 ⟨d.heap.size,0,Y⟩ N K underlying76 underlying5 underlying9 (λj r=>by
   have e:(⟨d.heap.size,0,Y⟩:Addr).add j=⟨d.heap.size,j,Y⟩:=by simp only[Addr.add];split<;>simp_all
   rw[e,ab b0.o j];unfold byteRow;simp[r])
  rw[E.o]at b8;clear ax;go_wp2_with fail;go_ret;exact⟨rfl,C.o⟩
 have b9:(k:Int)<s.length:=by omega
 have ac:(keepL (s.take k)).length<=N:=by rw[<- E.o,<- l.o];exact qh s k
 obtain⟨x,G⟩:=Qe (s[k]);have bk:=nU x;have bl:=yy x;have bc:=rQ;have bd:=oA;cases hsx:fA x
 .have a8:=(D wr C.o).no x hsx;obtain⟨H,u,V⟩:=Am hlt (by rw[G];exact hsx);rw[l.o,E.o]at V;obtain⟨j,r⟩:=Qe ((keepL (s.take k)).length);rw[r]at H u V ac ⊢;have aa:wr.cell? ⟨d.heap.size,j,Y⟩=X ((byteRow (jk s k))[j]'(by rw[jR,tn,l.o,E.o];exact V)):=(ab v.o j).trans (Array.getElem?_eq_getElem _);have bv:=ae v.o j;have a6:=aA v.o j (J ds x.toNat);rw[tm,<- G,<- H,G]at a6;have b2:=Z a6;have Q:=Z u;have aS:Hid (w.heap.size<=d.heap.size):=O.size;generalize((byteRow (jk s k))[j]'(by rw[jR,tn,l.o,E.o];exact V))=old at aa;have c2:(j:Int)<N:=by omega
  clear H u r hsx a6;go_wp2_with fail;go_roundw;exact⟨k+1,by omega,by go_num,by rw[Q.o];go_num,C.o.setCell aS.o _,b2⟩;simp[intOf];omega
 obtain⟨q,kq,a8⟩:=(D wr C.o).sep x hsx;obtain⟨H,u⟩:=x9 hlt (by rw[G];exact hsx);obtain⟨j,r⟩:=Qe ((keepL (s.take k)).length);rw[r]at u ac ⊢;have ad:=Z H;have Q:=Z u;have bs:=λa n c=>xP a n c q kq wr.drew;clear H u r hsx;have bA:(0:Int)<=j:=by omega
 rcases Nat.lt_or_eq_of_le ac with bB|rfl
 .have bO:(j:Int)<N:=by omega
  have bY:¬(N=j):=by omega
  have c0:¬(j=N):=by omega
  go_wp2_with fail;go_region;go_wp2_with fail;go_roundw;exact⟨k+1,by omega,by go_num,by rw[Q.o],C.o.drew,by unfold Hid;rw[ad.o];exact v.o⟩;simp[intOf];omega
 go_wp2_with fail;go_region;go_wp2_with fail;go_roundw
 case rel=>exact⟨k+1,by omega,by go_num,by rw[Q.o],C.o.drew,by unfold Hid;rw[ad.o];exact v.o⟩
 simp[intOf];omega
theorem un(p:Option Addr)(W:er):(method 567 404 (.pointer p) "Replace").run prog W=.ok (394,.pointer p) W:=by kernel_rfl
theorem rK(R on t:Nat)(i:Array fp)(s:Bs)(w:er)(d:w.heap[R]?=X (cs #[J .u32 0,J dx 0,J .u32 0,.nilIface,dc on 4 t] 355 (0,0)))(h:w.heap[on]?=X (cs (onC i) 9 (0,0)))(H:s.length<=1000000000):
 fb prog 238 #[.pointer R,S s] w λe w'=>e=da (S (keepL s))/\ai (λq=>q=R) w (λq=>q=R) w':=by
 have B:=af d;have E:R≠on:=dw d h (by decide);have v:=Z (CZ R _ _ _ _ (zl R on t w i B) w (λw' m=>⟨m.size,(m.block on E.symm).trans h⟩) d);clear d h;go_enter func238,ntmps238;go_upto_region 2 with(go_at_call 288;refine dy v.o ?_;rintro e b⟨rfl,G⟩)
 obtain⟨N,O,n,⟨r,o⟩,f,k⟩:=G;have l:ai (λq=>q=R) w (λq=>q=R) b:=((ai.of_only (F:=λq=>q=R) n rfl).trans r).trans (ai.of_only (F:=λq=>q=R) f rfl);have p:nh w b (w.heap.size+1):=by obtain⟨a,c,y,I,z,K,A,j⟩:=o;exact⟨a,c,y,I,z,K,(f.block _ (by omega)).trans A,aj j (λg D=>f.block g (λe=>by have:=(j.lt g D).1;omega))⟩
 have L:b.cell? ⟨R,3,Y⟩=X (.iface 404 (dk (X ⟨w.heap.size+1,0,Y⟩))):=(ab k 3).trans rfl;have x:=Z l;have u:=Z (rJ w (w.heap.size+1) s b p H);have M:=un (X ⟨w.heap.size+1,0,Y⟩) b;clear n r o f k l p;go_wp2_with (go_at_call 394;refine dy u.o ?_;rintro e P⟨rfl,C⟩)
 go_ret;exact⟨rfl,x.trans (ai.of_below C)⟩
end
section
open Go.Shelf
def r5:Go.Shelf.Ren:=⟨λ|190=>186|125=>136|258=>251|128=>199|129=>200|302=>294|303=>295|304=>296|305=>297|306=>298|307=>299|308=>300|309=>301|310=>302|333=>325|329=>261|330=>262|334=>326|335=>327|336=>328|344=>341|n=>n,λ|31=>81|9=>9|3=>3|46=>218|0=>0|51=>277|53=>143|4=>4|183=>271|182=>270|131=>112|5=>5|218=>317|222=>320|228=>367|229=>368|n=>n,λ|n=>n⟩
theorem vL:Go.Proofs.Lays.n190 prog r5:={
 mixed:=by kernel_rfl
 f125:=Qf func136
 f128:=Qf func199
 f129:=Qf func200
 f190:=Qf func186
 f258:=Qf func251
 f302:=Qf func294
 f303:=Qf func295
 f304:=Qf func296
 f305:=Qf func297
 f306:=Qf func298
 f307:=Qf func299
 f308:=Qf func300
 f309:=Qf func301
 f310:=Qf func302
 f329:=Qf func261
 f330:=Qf func262
 f333:=Qf func325
 f334:=Qf func326
 f335:=Qf func327
 f336:=Qf func328
 f344:=Qf func341
 t0:=underlying0
 a0:=Tryz.isAgg0
 z0:=sizeOf0
 v0:=zeroValue0
 t3:=underlying3
 a3:=Tryz.isAgg3
 z3:=sizeOf3
 v3:=zeroValue3
 t4:=underlying4
 a4:=Tryz.isAgg4
 z4:=sizeOf4
 v4:=zeroValue4
 t5:=underlying5
 a5:=Tryz.isAgg5
 z5:=sizeOf5
 v5:=zeroValue5
 t9:=underlying9
 a9:=Tryz.isAgg9
 z9:=sizeOf9
 v9:=zeroValue9
 t31:=underlying81
 a31:=Tryz.isAgg81
 z31:=sizeOf81
 v31:=zeroValue81
 t46:=underlying218
 a46:=Tryz.isAgg218
 z46:=sizeOf218
 v46:=zeroValue218
 t51:=underlying277
 a51:=Tryz.isAgg277
 z51:=sizeOf277
 v51:=zeroValue277
 t53:=underlying143
 a53:=Tryz.isAgg143
 z53:=sizeOf143
 v53:=zeroValue143
 t131:=underlying112
 a131:=Tryz.isAgg112
 z131:=sizeOf112
 v131:=zeroValue112
 t182:=underlying270
 a182:=Tryz.isAgg270
 z182:=sizeOf270
 v182:=zeroValue270
 t183:=underlying271
 a183:=Tryz.isAgg271
 z183:=sizeOf271
 v183:=zeroValue271
 t218:=underlying317
 a218:=Tryz.isAgg317
 z218:=sizeOf317
 v218:=zeroValue317
 t222:=underlying320
 a222:=Tryz.isAgg320
 z222:=sizeOf320
 v222:=zeroValue320
 t228:=underlying367
 a228:=Tryz.isAgg367
 z228:=sizeOf367
 v228:=zeroValue367
 t229:=underlying368
 a229:=Tryz.isAgg368
 z229:=sizeOf368
 v229:=zeroValue368}
open Go.Sort Go.RowKit in
theorem slices_Sort_string(a c d:Nat)(b:List (List UInt8))(w:er)(f:Holds encStr w a c b.toArray)(g:a<w)(h:b.length<4611686018427387904):
 fb prog 186 #[dc (X ⟨a,c,Y⟩) b d] w λe w'=>
  e=da (.tuple #[])/\∃n i,w'=grow (putRow encStr (Sort.ahead w n) a c (b.mergeSort λx y=>decide (x<=y)).toArray) i:=Any.slices_Sort_string vL a c d b w f g h
def r3:Go.Shelf.Ren:=⟨λ|193=>189|n=>n,λ|31=>81|9=>9|4=>4|3=>3|0=>0|n=>n,λ|n=>n⟩
theorem p8:Go.Proofs.Lays.n193 prog r3:={
 mixed:=by kernel_rfl
 f193:=Qf func189
 t0:=underlying0
 a0:=Tryz.isAgg0
 z0:=sizeOf0
 v0:=zeroValue0
 t3:=underlying3
 a3:=Tryz.isAgg3
 z3:=sizeOf3
 v3:=zeroValue3
 t4:=underlying4
 a4:=Tryz.isAgg4
 z4:=sizeOf4
 v4:=zeroValue4
 t9:=underlying9
 a9:=Tryz.isAgg9
 z9:=sizeOf9
 v9:=zeroValue9
 t31:=underlying81
 a31:=Tryz.isAgg81
 z31:=sizeOf81
 v31:=zeroValue81}
open Go.RowKit Go.Lib in
theorem slices_Equal_string(b g n c f h m d:Nat)(a ys:List ByteArray)(w:er)(p:n<=a)(r:m<=ys)(i:n<=9223372036854775807)(k:m<=9223372036854775807)(l:∀j,j<a.length->w.cell? ⟨b,g+j,Y⟩=X (.string (a.getD j ByteArray.empty)))(o:∀j,j<ys.length->w.cell? ⟨f,h+j,Y⟩=X (.string (ys.getD j ByteArray.empty))):
 fb prog 189 #[dc (X ⟨b,g,Y⟩) n c,dc (X ⟨f,h,Y⟩) m d] w λe w'=>e=da (dq (decide (a.take n=ys.take m)))/\∃q,w'=w.drewN q:=Any.slices_Equal_string p8 b g n c f h m d a ys w p r i k l o
open Go.RowKit Go.Lib in
theorem slices_Equal_string_empty(a b:Option Addr)(c m d:Nat)(w:er)(f:m<=9223372036854775807):
 fb prog 189 #[dc a 0 c,dc b m d] w λe w'=>e=da (dq (decide (m=0)))/\w'=w:=Any.slices_Equal_string_empty p8 a b c m d w f
open Go.RowKit Go.Sort in
theorem slices_Sort_string_none(p:Option Addr)(a:Nat)(w:er):
 fb prog 186 #[dc p 0 a] w λe w'=>e=da (.tuple #[])/\w'=w:=Any.slices_Sort_string_none vL p a w
open Go.RowKit Go.Lib in
theorem slices_Equal_string_lens(a b:Option Addr)(n c m d:Nat)(w:er)(f:n≠m):
 fb prog 189 #[dc a n c,dc b m d] w λe w'=>e=da (dq false)/\w'=w:=Any.slices_Equal_string_lens p8 a b n c m d w f
end
end Go.Proofs.YtjcimanddakkaaaGreatDoor
