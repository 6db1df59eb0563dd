/- Lemmas. -/
import Derived.Test.YtjcimanddakkaaaGreatDoorCT0
import Derived.Test.YtjcimanddakkaaaGreatDoorCT2
import Derived.Test.YtjcimanddakkaaaGreatDoorCT4
import Derived.Maps.OwnIn
set_option maxRecDepth 100000
set_option maxHeartbeats 8000000
namespace Go.Proofs.YtjcimanddakkaaaGreatDoor
open Go.Obj renaming cells→cd
open Go.Value renaming slice→cg,map→ci,pointer→cj,bool→cl,int→J
open Go.Ending renaming returned→ch
open _root_.Option renaming some→X,none→Y
open Go.Lib renaming hid→Z
open Go.IntKind renaming u8→cm,i64→U
open Tryz
open _root_.List renaming length_cons→cp,getElem_mem→cy,all_eq_true→cz,take_of_length_le→cP,mem_cons_of_mem→dd,append_toArray→dk,mem_cons_self→dx,size_toArray→eb,push_toArray→ej,length_take→er,cons_append→es,nil_append→ex,length_nil→eQ,getD_eq_getElem?_getD→e0,getElem?_eq_getElem→e3,mem_of_mem_take→e8,take_succ_cons→fb,getD_cons_succ→fc,length_append→fl
open _root_.Int renaming tmod_eq_emod_of_nonneg→cq
open _root_.Nat renaming le_refl→cs,zero_le→ds,lt_of_lt_of_le→dz,zero_add→em,mul_le_mul→e2,reduceSub→e6,reduceAdd→e7
open Go renaming World→cu,Calls→e4
open Go.Calls renaming mono→cv
open Go.Utf8 renaming decode→cx
open Go.RowKit.Below renaming refl→cQ
open _root_.Array renaming replicate_zero→da,replicate_succ→dc
open Go.World renaming iterPos→dq,ownsRow_nil→dy,cell?_alloc_new→e5
open Go.Fence renaming wide→e1
open Go.Lib renaming trimS→e9
section
open Go.RowKit Go.Maps
theorem yI(w:cu)(a:Array Value)(t:TypeId)(l:List Bs)(n b:Nat)(hn:n=l)(h:a.toList=l.map λs=>S s):
 db 0 (w.alloc (cd a t)).heap.size (w.alloc (cd a t)) (cg w n b) l:=by
 subst hn;refine⟨_,b,rfl,λ_=>⟨w,0,rfl,ds _,by simp,λj x c=>?_⟩⟩;rw[em,<- h]at*;exact(e5 w a t j).trans (by simpa using c)
theorem AV:∀p∈rowsS,(32:UInt8)∉p.1/\p.1.length+p.2<=1000:=by decide+kernel
theorem yU:(dW rowsS).length<=1000000:=by
 have h:((dW rowsS).map (·.1)).length<=1000000:=by rw[rf];decide+kernel
 rwa[List.length_map]at h
theorem rX(w:cu):e4 prog 248 #[] w λe w'=>∃b,e=ch (ci (X b))/\w<=b/\an iI w' b (dW rowsS)/\Bw w w':=by
 go_enter func248,ntmps248;go_wp2_with (go_at_call 292;((refine cv (qO rowsS _ _ (yI w _ 9 (rowsS.map rowText) 31 31 (by kernel_rfl) (by kernel_rfl)) AV (by decide+kernel) wv yU) ?_);rintro e w1⟨rfl,c,a⟩))
 go_ret;exact⟨w.heap.size+1,by simp,by omega,by simpa using c,((cQ _ w).alloc (cs _) _).trans (a.mono (by simp))⟩
end
section
open Go.RowKit Go.Maps Go.Shelf
attribute [local go_sem] Oper.semAt_some
theorem ou(u:Nat)(p v:Value)(w:cu)(h:w.heap[u]?=X (cd #[p,v] 187 (0,0))):
 e4 prog 250 #[.pointer u] w λe w'=>e=ch (.tuple #[])/\w'.heap[u]?=X (cd #[cj Y,cg Y 0 0] 187 (0,0))/\aF u w w':=by
 have a:w.cell? u=X p:=by rw[ab h];rfl
 have c1:w.cell? ⟨u,1,Y⟩=X v:=by rw[ab h];rfl
 have b:w.frozen? u=false:=ae h 0;have c:w.frozen? ⟨u,1,Y⟩=false:=ae h 1;have H:=Z h;clear h;go_enter func250,ntmps250;go_wp2_with fail;go_end0
 exact⟨rfl,(aA (aA H.o 0 _) 1 _).trans rfl,aF.setCell (aF.setCell (aF.refl u w) 0 _) 1 _⟩
def Mw(b u:Nat)(g:Option Nat)(k:Nat):Prop:=k=b∨k=u∨k=u+1∨X k=g
theorem uX(x:ByteArray)(h:x.size<=4):(m8 x).length<=4:=by
 show x.data.toList.length<=4;rw[Array.length_toList];exact h
theorem BU(c:Nat):(enc c).length<=4:=uX _ (Go.encode_size_le (c:Int))
theorem kB(c:Nat):(foldR c).length<=4:=by
 have a:=BU;unfold foldR;split
 .exact a _
 split
 .exact a _
 split
 .simp
 split
 .simp
 split
 .rename_i s h;have:∀l:List (Bs×List Nat),(∀p∈l,p.1.length<=4)->∀s,rowIn c l=X s->s.length<=4:=by
   intro l;induction l with
   |nil=>intro _ s h;cases h
   |cons p l ih=>
    intro b s h;obtain⟨t,m⟩:=p;unfold rowIn at h;split at h
    .injection h with h;rw[<- h];exact b _ dx
    exact ih (λq d=>b q (dd _ d)) s h
  exact this rowsK (by decide+kernel) s h
 split
 .exact a _
 split
 .exact a _
 split
 .exact a _
 simp
structure Ce(J:(Nat->Prop)->List Bs->cu->Prop)(s:Bs)(b u:Nat)(wr:cu)(pos:Nat)(rest:List Nat)(pre:List Bs)(l:Bs)(g:Option Nat):Prop where
 it:wr.heap[u+1]?=some (.stringIter ⟨s.toArray⟩ pos)
 bld:Bld (u+2) u g l wr
 tab:an iI wr b (dW rowsS)
 j:J (Mw b u g) pre wr
 all:pre++aX rest l=wordsR s
 run:fa ⟨s.toArray⟩ pos rest
 len:l<=4*pos
 pos:pos<=s
def vZ(a:(Nat->Prop)->List Bs->cu->Prop)(s:Bs)(b u:Nat)(wr:cu):Prop:=∃c e d l g,Ce a s b u wr c e d l g
theorem vj{B b u:Nat}{g f:Option Nat}{c i:cu}(a:Fr u g c i)(m:f=g∨∃k,f=X k/\c.heap.size<=k)(l:∀k,f=X k->k<i.heap.size)(n:b<c.heap.size)(p:u+1<c.heap.size):dj B (Mw b u g) c (Mw b u f) i:=
 ⟨a.os,a.tape,a.output,a.size,λk d hn _=>a.block k d (λe=>hn (.inr (.inl e))) (λe=>hn (.inr (.inr (.inr e)))),λk d=>by
  rcases d with h|h|h|h
  .exact .inl (.inl h)
  .exact .inl (.inr (.inl h))
  .exact .inl (.inr (.inr (.inl h)))
  .rcases m with e|⟨j,e,o⟩
   .exact .inl (.inr (.inr (.inr (by rw[h,e]))))
   .rw[e]at h;injection h with h;exact .inr (by omega),λk d=>by
  have:=a.size
  rcases d with rfl|rfl|rfl|h
  .omega
  .omega
  .omega
  .exact l k h.symm⟩
theorem zK{b u:Nat}{g:Option Nat}{a c:cu}(f:Fr u g a c)(h:∀k,g=X k->u+2<=k)(k:Nat)(i:k<a.heap.size)(d:k≠u)(j:k<u+2)(_:b=b):c.heap[k]?=a.heap[k]?:=
 f.block k i d λe=>by have:=h k e.symm;omega
theorem pB{g:Option Nat}{n:Nat}{a b:cu}(h:yi g n a b)(k:Nat)(d:k<a.heap.size)(c:X k≠g):b.heap[k]?=a.heap[k]?:=(h.fr (k+1)).block k d (by omega) c
theorem nZ{B b u:Nat}{g:Option Nat}{n:Nat}{a c:cu}(h:yi g n a c)(e:∀k,g=X k->k<a.heap.size)(d:b<a.heap.size)(i:u+1<a.heap.size):dj B (Mw b u g) a (Mw b u g) c:=
 vj (h.fr u) (.inl rfl) (λk f=>dz (e k f) (h.fr u).size) d i
theorem oy{B b u:Nat}{g:Option Nat}{a d:cu}(h:aF u a d)(f:b<a.heap.size)(i:u+1<a.heap.size):dj B (Mw b u g) a (Mw b u Y) d:=
 ⟨h.os,h.tape,h.output,by rw[h.size];exact cs _,λk _ hn _=>h.block k (λe=>hn (.inr (.inl e))),λk c=>by
  rcases c with e|e|e|e
  .exact .inl (.inl e)
  .exact .inl (.inr (.inl e))
  .exact .inl (.inr (.inr (.inl e)))
  .exact absurd e (by simp),λk c=>by
  rw[h.size]
  rcases c with rfl|rfl|rfl|e
  .exact f
  .omega
  .exact i
  .exact absurd e (by simp)⟩
theorem jZ(n:Nat)(hn:1<=n)(w:Nat)(s:Bs)(hs:s.length<=1000000)(w0:cu)(B:w0.cell? w=X (S s)):
 jr e1 n prog 247 #[.pointer w] (λx:Bs=> #[S x]) (λxs=>xs=wordsR s) (λm=>m≠[]/\m<+:wordsR s) (λm x=>x≠[]/\m++[x]<+:wordsR s) (λ_=>False) w0:=by
 intro cc O Jx W hW hJ hY h0;have c0:W.cell? w=X (S s):=(hW.cell (p:=w) (bE B)).trans B;have y:=Z hJ;have HY:=Z hY;have H0:=Z h0;clear hJ hY h0 hW B;refine callsIn_of_wp func247 rfl trivial ?_ rfl;simp only[ntmps247,eb,cp,eQ,e7,e6,dc,da,ej,dk,ex,es];gi_wp2_with (refine⟨trivial,?_⟩;gi_at_call 248;refine(callsIn_wide.2 (rX _)).mono ?_;rintro e w1⟨b,rfl,bl,hm,a2⟩;have bO:w<w1:=(dz (bE c0) a2.size);have c1:w1.cell? w=X (S s):=(a2.cell (p:=w) (bE c0)).trans c0;obtain⟨u,hu⟩:=Qe w1.heap.size;rw[hu]at bO)
 have c4:=a2.size;have c6:b<u:=by rw[<- hu];exact hm.lt
 have ay:=lJ w1 u (u+2) hu.symm (by omega);have T:Bw W ((w1.alloc (cd #[cj Y,cg Y 0 0] 187)).alloc (.stringIter ⟨s.toArray⟩ 0)):=(a2.alloc c4 _).alloc (by simp;omega) _;have b3:vZ O s b u ((w1.alloc (cd #[cj Y,cg Y 0 0] 187)).alloc (.stringIter ⟨s.toArray⟩ 0)):=by
  refine⟨0,runesR s,[],[],Y,⟨?_,ay.alloc _,(hm.alloc _).alloc _,y.o _ _ _ _ _ H0.o ⟨T.os,T.tape,T.output,T.size,λk a _ _=>T.block k a,λk a=>.inr ?_,λk a=>?_⟩,rfl,eF s,by simp,ds _⟩⟩
  .have:=World.alloc_heap_new (w1.alloc (cd #[cj Y,cg Y 0 0] 187)) (.stringIter ⟨s.toArray⟩ 0);rwa[World.size_alloc,hu]at this
  .rcases a with rfl|rfl|rfl|h
   .exact bl
   .omega
   .omega
   cases h
  simp only[World.size_alloc,hu];rcases a with rfl|rfl|rfl|h
  .omega
  .omega
  .omega
  cases h
 have b9:=Z b3;clear b3 ay hm;gi_loopw [] (λwr=>vZ O s b u wr) (λwr=>s-wr.iterPos (u+1))
 case atStart=>exact b9.o
 obtain⟨i,t,m,l,g,h⟩:=hrel;have I:=h.it;have ao:wr.iterPos (u+1)=i:=by simp[dq,I]
 have ca:u+1<wr:=(Array.getElem?_eq_some_iff.1 I).1;have H:=Z h;clear h;cases t with
 |nil=>
  have bB:¬i<(⟨s.toArray⟩:ByteArray).size:=by have:i=(⟨s.toArray⟩:ByteArray).size:=H.o.run;omega
  have b1:∀C,(Instr.next (cj (X ⟨u+1,0,Y⟩)) true C).run prog wr=_:=λC=>Lib.run_next_end_at wr (u+1) ⟨s.toArray⟩ i C I bB;have r:=Z H.bld;have D:=Z H.all;have F:=Z H.j;have v:b<wr:=H.tab.lt;have bw:=H.len;have c9:=H.pos;by_cases hl0:l=[]
  .subst hl0
   gi_wp2_with (first
    |(refine⟨trivial,?_⟩;gi_at_call 114;refine(callsIn_wide.2 (p7 (u+2) u g _ _ r.o)).mono ?_;rintro e o⟨rfl,d⟩;have d:=d.symm;subst d))
   go_end0
   have h1:=D.o;simp only[aX,if_true,List.append_nil]at h1;exact⟨⟨_,rfl⟩,.inl ⟨_,m,h1,F.o⟩⟩
  have bA:(0:Int)<(l.length:Int):=by have:=List.length_pos_iff.2 hl0;omega
  have A:m++[l]=wordsR s:=by rw[<- D.o];simp[aX,hl0]
  have al:l≠[]/\m++[l]<+:wordsR s:=⟨hl0,by rw[<- A];exact List.prefix_refl _⟩;have L:=Z A;clear A hl0
  gi_wp2_with (first
   |(refine⟨trivial,?_⟩;gi_at_call 114;refine(callsIn_wide.2 (p7 (u+2) u g _ _ r.o)).mono ?_;rintro e o⟨rfl,d⟩;have d:=d.symm;subst d)
   |(refine⟨trivial,?_⟩;gi_at_call 115;refine(callsIn_wide.2 (fG (u+2) u g l _ r.o (by omega))).mono ?_;rintro e o⟨rfl,K⟩;have V:O (Mw b u g) m o:=y.o _ _ _ _ _ F.o (nZ K (λk a=>(r.o.row k a).2) v (by omega));obtain⟨fn,c5,bc,bd,hy,Q⟩:=HY.o _ m l o V al;have HR:=Z Q;clear Q V))
  refine HR.mono ?_;rintro e w3(⟨rfl,a4,a0,_⟩|⟨rfl,ad⟩)
  .gi_wp2
   go_end0
   exact⟨⟨_,rfl⟩,.inl ⟨_,m++[l],L.o,a4⟩⟩
  gi_wp2
  go_end0
  exact⟨⟨_,rfl⟩,.inr ⟨_,m++[l],⟨by simp,by rw[<- L.o];exact List.prefix_refl _⟩,ad⟩⟩
 |cons c t=>
  obtain⟨hp,B,cb,b6,b2⟩:=H.run;have b1:∀C,(Instr.next (cj (X ⟨u+1,0,Y⟩)) true C).run prog wr=_:=λC=>Lib.run_next_any_at wr (u+1) ⟨s.toArray⟩ i C I hp;have aS:=Lib.iterAt_heap wr (u+1) ⟨s.toArray⟩ i (i+(cx ⟨s.toArray⟩ i).2) I;have a1:∀k,k≠u+1->(wr.iterAt (u+1) ⟨s.toArray⟩ (i+(cx ⟨s.toArray⟩ i).2)).heap[k]?=wr.heap[k]?:=λk a=>Lib.iterAt_other _ _ _ _ _ a;have R:=Lib.below_iterAt (cQ (u+1) wr) (k:=u+1) (cs _) ⟨s.toArray⟩ (i+(cx ⟨s.toArray⟩ i).2);have bY:=Lib.iterAt_size wr (u+1) ⟨s.toArray⟩ (i+(cx ⟨s.toArray⟩ i).2);rw[B]at b1;have bs:c<=1114111:=by rw[<- B,ep];exact Lib.decodeL_rune _
  generalize(wr.iterAt (u+1) ⟨s.toArray⟩ (i+(cx ⟨s.toArray⟩ i).2))=W1 at*;generalize(cx ⟨s.toArray⟩ i).2=z at*;have au:i+z<=s:=b6;have aa:Bld (u+2) u g l W1:=H.o.bld.keep (a1 _ (by omega)) (λk a=>a1 _ (by have:=(H.o.bld.row k a).1;omega));have a5:an iI W1 b (dW rowsS):=H.o.tab.block (a1 _ (by omega));have aT:O (Mw b u g) m W1:=y _ _ _ _ _ H.j ⟨R.os,R.tape,R.output,R.size,λk a hn _=>a1 k (λe=>hn (.inr (.inr (.inl e)))),λk a=>.inl a,λk a=>by
   rcases a with rfl|rfl|rfl|a
   .have:=a5.lt;exact this
   .omega
   .omega
   exact(aa.row k a.symm).2⟩
  have bw:=H.len;have bt:=kB c;have bk:u+2<=W1:=by omega
  have r:=Z aa;have N:=Z a5;have F:=Z aT;have a9:=Z b2;have M:=Z aS;have HF:=Z (zL c b W1 bs a5);have D:=Z H.all;clear aa a5 aT b2 I aS a1 R bY B hp b6;by_cases hf:foldR c=[32];rotate_left
  .have E:Hid (aX (c::t) l=aX t (l++foldR c)):=by show aX _ _=_;rw[aX,if_neg hf]
   generalize foldR c=f at*;have c7:(f==[32])=false:=by simpa using hf
   clear hf
   gi_wp2_with (first
    |(refine⟨trivial,?_⟩;gi_at_call 249;refine(callsIn_wide.2 HF.o).mono ?_;rintro e o⟨rfl,d⟩;have d:=d.symm;subst d)
    |(refine⟨trivial,?_⟩;gi_at_call 112;refine(callsIn_wide.2 (gN (u+2) u g l f _ r.o bk (by omega))).mono ?_;rintro e o⟨rfl,g2,az,bv,a3⟩))
   go_roundw
   case rel=>
    have G:=λk a=>(r.row k a).1;have v:b<W1:=N.lt
    exact⟨i+z,t,m,l++f,g2,⟨(zK a3 G (u+1) (by omega) (by omega) (by omega) (rfl:b=b)).trans M.o,az,N.o.block (zK a3 G b v (by omega) (by omega) (rfl:b=b)),
     y.o _ _ _ _ _ F.o (vj a3 bv (λk a=>(az.row k a).2) v (by omega)),by rw[<- E.o];exact D.o,a9.o,by rw[fl];omega,au⟩⟩
   have G:=λk a=>(r.row k a).1;have P:o.iterPos (u+1)=i+z:=by simp[dq,(zK a3 G (u+1) (by omega) (by omega) (by omega) (rfl:b=b)).trans M.o]
   rw[P,ao];omega
  have E:Hid (aX (c::t) l=if l=[]then aX t []else l::aX t []):=by show aX _ _=_;rw[aX,if_pos hf]
  rw[hf]at HF;clear hf bt;have v:b<W1:=N.lt;obtain⟨_,p0,v0,b5,_⟩:=r.o;have ax:=Z b5;clear b5;by_cases hl0:l=[]
  .subst hl0;rw[if_pos rfl]at E
   gi_wp2_with (first
    |(refine⟨trivial,?_⟩;gi_at_call 249;refine(callsIn_wide.2 HF.o).mono ?_;rintro e o⟨rfl,d⟩;have d:=d.symm;subst d)
    |(refine⟨trivial,?_⟩;gi_at_call 114;refine(callsIn_wide.2 (p7 (u+2) u g _ _ r.o)).mono ?_;rintro e o⟨rfl,d⟩;have d:=d.symm;subst d))
   refine⟨trivial,?_⟩;gi_wp2
   refine⟨λ_ h=>(by cases h),?_⟩;gi_wp2_with (refine⟨trivial,?_⟩;gi_at_call 250;refine(callsIn_wide.2 (ou u p0 v0 _ ax.o)).mono ?_;rintro e o⟨rfl,c2,a6⟩)
   go_roundw
   case rel=>
    exact⟨i+z,t,m,[],Y,⟨(a6.block _ (by omega)).trans M.o,⟨by omega,cj Y,cg Y 0 0,c2,.inl rfl,dy _ _ _ _,rfl,λ_=>rfl⟩,N.o.block (a6.block _ (by omega)),
     y.o _ _ _ _ _ F.o (oy a6 v (by omega)),by rw[<- E.o];exact D.o,a9.o,by simp,au⟩⟩
   have P:o.iterPos (u+1)=i+z:=by simp[dq,(a6.block (u+1) (by omega)).trans M.o]
   rw[P,ao];omega
  rw[if_neg hl0]at E;have bA:(0:Int)<(l.length:Int):=by have:=List.length_pos_iff.2 hl0;omega
  have b8:=Z hl0;clear hl0;have A:m++l::aX t []=wordsR s:=by rw[<- E.o];exact D.o
  have al:l≠[]/\m++[l]<+:wordsR s:=⟨b8.o,by rw[<- A];exact⟨aX t [],by simp⟩⟩;have L:=Z A;clear A
  gi_wp2_with (first
   |(refine⟨trivial,?_⟩;gi_at_call 249;refine(callsIn_wide.2 HF.o).mono ?_;rintro e o⟨rfl,d⟩;have d:=d.symm;subst d)
   |(refine⟨trivial,?_⟩;gi_at_call 114;refine(callsIn_wide.2 (p7 (u+2) u g _ _ r.o)).mono ?_;rintro e o⟨rfl,d⟩;have d:=d.symm;subst d)
   |(refine⟨trivial,?_⟩;gi_at_call 115;refine(callsIn_wide.2 (fG (u+2) u g l _ r.o (by omega))).mono ?_;rintro e o⟨rfl,K⟩;have V:O (Mw b u g) m o:=y.o _ _ _ _ _ F.o (nZ K (λk a=>(r.o.row k a).2) v (by omega));obtain⟨fn,c5,bc,bd,hy,Q⟩:=HY.o _ m l o V al;have HR:=Z Q;clear Q V))
  refine HR.mono ?_;rintro e w3(⟨rfl,a4,a0,_⟩|⟨rfl,ad⟩)
  .have G:=λk a=>(r.row k a).1;have ac:∀q,q<u+2->X q≠g:=λq hq e=>by have:=G q e.symm;omega
   have b4:w3.heap[u]?=X (cd #[p0,v0] 187 (0,0)):=(a0 u (.inr (.inl rfl))).trans ((pB K u (by omega) (ac u (by omega))).trans ax.o);have aC:w3.heap[u+1]?=X (.stringIter ⟨s.toArray⟩ (i+z)):=(a0 (u+1) (.inr (.inr (.inl rfl)))).trans ((pB K (u+1) (by omega) (ac _ (by omega))).trans M.o);have b0:an iI w3 b (dW rowsS):=N.o.block ((a0 b (.inl rfl)).trans (pB K b v (ac _ (by omega))));have bb:=Z b4;have a8:=Z aC;have av:=Z b0;have b7:=Z a4;clear b4 aC b0 a4 a0
   gi_wp2_with (first
    |(refine⟨trivial,?_⟩;gi_at_call 250;refine(callsIn_wide.2 (ou u p0 v0 _ bb.o)).mono ?_;rintro e w4⟨rfl,c3,a7⟩))
   go_roundw
   case rel=>
    exact⟨i+z,t,m++[l],[],Y,⟨(a7.block _ (by omega)).trans a8.o,⟨by omega,cj Y,cg Y 0 0,c3,.inl rfl,dy _ _ _ _,rfl,λ_=>rfl⟩,av.o.block (a7.block _ (by omega)),
     y.o _ _ _ _ _ b7.o (oy a7 av.o.lt (Array.getElem?_eq_some_iff.1 a8.o).1),by rw[List.append_assoc];exact L.o,a9.o,by simp,au⟩⟩
   have P:w4.iterPos (u+1)=i+z:=by simp[dq,(a7.block (u+1) (by omega)).trans a8.o]
   rw[P,ao];omega
  gi_wp2
  refine bodyPost_ret (results_none rfl _ _ _) rfl ?_;exact⟨⟨_,rfl⟩,.inr ⟨_,m++[l],⟨by simp,⟨aX t [],by rw[List.append_assoc];exact L.o⟩⟩,ad⟩⟩
attribute [local go_sem] Oper.semAt_some
theorem i9:(prog.info? 9).map (λi=>(i.zero,i.size,i.bytes))=X (X (.string ⟨#[]⟩),1,16):=by kernel_rfl
structure gI(w:cu)(Bo:Nat)(M:Nat->Prop)(pre:List Bs)(W:cu):Prop where
 o:∃v,Boxed W Bo 81 v/\W.ownsRow w 9 1 v pre (pre.map λs=>S s)/\∀g,v.ownBlock=some g->¬M g
 b:Bw w W
 lt:∀k,M k->k<W/\w<=k
 box:¬M Bo
theorem gI.stable(w:cu)(m B:Nat)(D:w<=B):io B (gI w m):=by
 intro M s n A z h c;obtain⟨v,l,q,hn⟩:=h.o;have y:∀k,k<n.heap.size->¬M k->(∃r t,n.heap[k]?=X (cd r t (0,0)))->z.heap[k]?=n.heap[k]?:=λk a u p=>by obtain⟨r,t,p⟩:=p;exact c.block k a u λ_ o j=>by rw[p]at j;injection j with j;subst j;rfl
 refine⟨⟨v,(y m (af l) h.box ⟨_,_,l⟩).trans l,aj q (λg e=>?_),λg e f=>?_⟩,?_,λk i=>⟨c.lt k i,?_⟩,λf=>?_⟩
 .obtain⟨C,x⟩:=aK q e;exact y g (af x) (hn g e) ⟨_,_,x⟩
 .have:=mh q g e;rcases c.new g f with a|a
  .exact hn g e a
  omega
 .have d:=h.b;exact⟨c.os.trans d.os,c.tape.trans d.tape,c.output.trans d.output,Nat.le_trans d.size c.size,λk i=>(c.block k (by have:=d.size;omega) (λf=>by have:=(h.lt k f).2;omega) (λu=>by omega)).trans (d.block k i)⟩
 .rcases c.new k i with a|a
  .exact(h.lt k a).2
  have:=h.b.size;omega
 rcases c.new m f with a|a
 .exact h.box a
 have:=af l;omega
theorem nM(n:Nat)(hn:3<=n)(g:Nat)(lb:Array Value)(eg:∀args w,(callFunc g args).run prog w=.ok (.enter g args) w)(C V:List Bs->Prop)(G:List Bs->Bs->Prop)(hG:∀p x,G p x->p.length<100000000)(w:cu)
 (a4:jr e1 (n-1) prog g lb (λx:Bs=> #[S x]) C V G (λ_=>False) w):
 CallsIn e1 n prog 290 #[cg Y 0 0,.func (.func g) #[] lb] w λe w'=>∃(v:Value)(r:List Bs),e=ch v/\C r/\w'.ownsRow w 9 1 v r (r.map λs=>S s)/\Bw w w':=by
 have y:1<=n:=by omega
 refine callsIn_of_wp_marks func290 rfl trivial ?_ rfl;simp only[ntmps290,eb,cp,eQ,e7,e6,dc,da,ej,dk,ex,es];gi_wp2
 have bO:=Boxed.new w 81 (cg Y 0 0);have z:Bw w (w.alloc (cd #[cg Y 0 0] 81)):=(cQ _ w).alloc (cs _) _
 refine lN rfl y (gf:=g) (lb:=lb) rfl trivial eg a4 (λk a=>a.elim) z (λ_=>rfl) (gI w w) (λ_ _ _ _=>False) (gI.stable w _ _ z.size) (λ_ _ _ _ _ _ h _=>h) (λM s a9 h k a=>(h.lt k a).1) (λ_ _ _ _ h=>h.elim)
  ⟨⟨_,bO,dy _ _ _ _,λg hg=>by cases hg⟩,z,λk a=>a.elim,λh=>h⟩
  (λx=>{tmps:= #[cg Y 0 0,.func (.func g) #[] lb,.pointer w,undef,cg Y 0 0,S x,.func (.func g) #[] lb,S x,undef,undef,undef,undef,undef],defers:=[]}) ?assign ?body ?done ?stop
 case assign=>
  intro l x W K f;gi_wp2
  exact f
 case body=>
  rintro l M p x W h I;have I:=hG _ _ I;obtain⟨v,m,j,O⟩:=h.o;have hc:=m.cell;obtain⟨i0,hi,a6,a7,a8⟩:=info_parts i9;have d:=Z h.b;have t:=Z j;have T:=Z m;have B:=Z O;have A:=Z h;clear h j m O;gi_wp2_with (gi_at_builtin;refine wpListIn_append_own_at _ rfl _ _ 81 rfl w 9 i0 (.string ⟨#[]⟩) 1 16 underlying81 hi a6 a7 a8 rfl (by decide) _ _ _ rfl (t.o.alloc _) W 1 1 [S x] rfl rfl (cell_one_new _ _ _) (by simp[Value.oneCell']) (by unfold maxLen;omega) (by omega) (by have:=d.o.size;simp;omega) ?_;intro v' w1 P H _ L;obtain⟨g',a0,rfl⟩:=ownsRow_succ P;obtain⟨Q,a5,a3,a1,E⟩:=T.o.appended (by decide) t.o d.o.size (cs _) P H;have aa:=Q.cell;have ac:=Q.frozen;have R:=Z L;clear L)
  have ad:=d.size;have u:=A.lt;have F:=A.box;have a2:∀k,M k->(w1.setCell w (cg g' (p.length+1) a0)).heap[k]?=W.heap[k]?:=λk a=>by have y:=(u k a).1;rw[Below.heap_setCell _ _ _ _ (λ(e:k=w)=>F (e▸a)),H.block k (by simp;omega) (λe=>B.o k e.symm a),Below.heap_alloc _ _ _ y]
  refine⟨a1,a2,⟨⟨_,a5,?_,λq i N=>?_⟩,d.trans E,λk a=>⟨?_,(u k a).2⟩,F⟩⟩
  .rw[fl,List.map_append];exact a3
  .rcases R.o with e|e
   .exact B q (e▸i) N
   rw[e]at i;injection i with i
   have:=(u q N).1;simp at i;omega
  exact dz (u k a).1 E.size
 case done=>
  rintro D M r W hD hS h f;obtain⟨v,m,j,_⟩:=h.o;have hc:=m.cell;have t:=Z j;have d:=Z h.b;clear h j;gi_wp2
  refine⟨by simp,.inl ⟨_,_,rfl,run_takeDeferred f,?_⟩⟩;exact⟨_,results_tmp rfl _ _ _,v,r,rfl,hS,ownsRow_putObj t.o _ f rfl,d.o.trans (belowK_b (w:=w) (cs _) W D _ _ (by simp at hD;omega) f rfl rfl)⟩
 rintro D c M p W _ _ h _;exact h.elim
theorem sU(n:Nat)(hn:4<=n)(g:Nat)(lb:Array Value)(f:∀args w,(callFunc g args).run prog w=.ok (.enter g args) w)(b c:List Bs->Prop)(G:List Bs->Bs->Prop)(h:∀d x,G d x->d.length<100000000)(w:cu)
 (l:jr e1 (n-1-1) prog g lb (λx:Bs=> #[S x]) b c G (λ_=>False) w):
 e4 prog 243 #[.func (.func g) #[] lb] w λe w'=>∃(v:Value)(a:List Bs),e=ch v/\b a/\w'.ownsRow w 9 1 v a (a.map λs=>S s)/\Bw w w':=by
 have m:1<=n:=by omega
 refine(callsIn_wide (n:=n)).1 ?_;refine callsIn_of_wp func243 rfl trivial ?_ rfl;simp only[ntmps243,eb,cp,eQ,e7,e6,dc,da,ej,dk,ex,es];gi_wp2_with (refine⟨trivial,?_⟩;gi_at_call 290;refine(nM (n-1) (by omega) g lb f b c G h _ l).mono ?_;rintro e w'⟨v,a,rfl,i,k,j⟩)
 go_ret;exact⟨v,a,rfl,i,k,j⟩
theorem jX(s:Bs)(w:cu):e4 prog 185 #[S s] w λe w'=>e=ch (.func (.func 247) #[] #[.pointer w])/\w'=w.alloc (cd #[S s] 9):=by
 go_enter func185,ntmps185;go_wp2_with fail;go_ret;exact⟨rfl,rfl⟩
theorem qW(a:List Nat)(l:Bs):(aX a l).length<=a+1:=by
 induction a generalizing l with
 |nil=>unfold aX;split<;>simp
 |cons c a ih=>
  unfold aX;split
  .split
   .have:=ih [];simp only[cp];omega
   have:=ih [];simp only[cp];omega
  have:=ih (l++foldR c);simp only[cp];omega
theorem ef(s:Bs):(wordsR s).length<=s+1:=by
 have a:=qW (runesR s) [];have b:=gg s;unfold wordsR;omega
theorem wh(s:Bs)(g:s.length<=1000000)(w:cu):e4 prog 182 #[S s] w λe w'=>∃v,e=ch v/\w'.ownsRow w 9 1 v (wordsR s).length ((wordsR s).map λs=>S s)/\Bw w w':=by
 have i:=ef s;have a:=jZ 5 (by omega) w s g (w.alloc (cd #[S s] 9)) (by rw[e5];rfl);have b:=Z (sU 7 (by omega) 247 #[.pointer w] (enters_of func247 (by kernel_rfl) rfl) _ _ _ (λj x h=>by have:=h.2.length_le;simp at this;omega) _ a);clear a;go_enter func182,ntmps182
 go_wp2_with (first
  |(go_at_call 185;((with_reducible refine cv (jX s _) ?_);rintro e w1⟨rfl,rfl⟩))
  |(go_at_call 243;((with_reducible refine cv b.o ?_);rintro e w1⟨v,k,rfl,c,f,d⟩)))
 go_ret;obtain rfl:=c;exact⟨v,rfl,aD f (by simp),((cQ _ w).alloc (cs _) _).trans (d.mono (by simp))⟩
theorem dX(s:Bs)(w:cu)(c:s.length<=9223372036854775807):e4 prog 230 #[S s] w λe w'=>e=ch (cl (s.all digitB))/\Bw w w':=by
 have H:=Z (pm ⟨s.toArray⟩ w c);have a:=Z (lS s);change Hid (e4 prog 204 #[S s,.string ⟨#[48,49,50,51,52,53,54,55,56,57]⟩] w λe w'=>e=ch (S (e9 s ji))/\Bw w w')at H;generalize e9 s ji=t at*;go_enter func230,ntmps230;go_wp2_with (go_at_call 204;(refine cv H.o ?_;rintro e w'⟨rfl,b⟩))
 go_ret;refine⟨am ?_,b⟩;rw[Bool.eq_iff_iff,<- a.o];simp
theorem mF:∀l:List Bs,Lib.join l [32]=joinR l
 |[]=>rfl
 |[a]=>by rw[Lib.join_one];rfl
 |a::b::l=>by
  rw[Lib.join_cons]
  have h:=mF (b::l)
  rw[Lib.join_cons]at h
  unfold joinR
  rw[<- h]
  simp[Lib.joinTail]
theorem CS(l:List Bs):l.map (λs=>S s)=(l.map λs=>(⟨s.toArray⟩:ByteArray)).map Value.string:=by simp[S]
theorem mD{w:cu}{B n:Nat}{v:Value}{l:List Bs}(h:w.ownsRow B 9 1 v n (l.map λs=>S s))(hn:l.length<=100000000)(o:(joinR l).length<=140737488355328):
 e4 prog 244 #[v,S [32]] w λe w'=>e=ch (S (joinR l))/\Bw w w':=by
 rcases h.2 with⟨rfl,t⟩|⟨g,f,i,rfl,A,c,k,y,z,m⟩
 .have p:l=[]:=by have:=h.1;rw[t]at this;simpa using this
  subst p;refine(strings_Join_none Y 0 ⟨#[32]⟩ w).mono ?_;rintro e w'⟨rfl,rfl⟩;exact⟨rfl,cQ _ _⟩
 have q:l=n:=by have:=h.1;simpa using this
 subst q;have r:(l.map λs=>(⟨s.toArray⟩:ByteArray)).map (·.data.toList)=l:=by simp[Function.comp_def]
 have b:(l.map λs=>(⟨s.toArray⟩:ByteArray)).length=l:=by simp
 have d:Lib.join ((l.map λs=>(⟨s.toArray⟩:ByteArray)).map (·.data.toList)) (⟨#[32]⟩:ByteArray).data.toList=joinR l:=by rw[r];exact mF l
 have H:=strings_Join g 0 f (l.map λs=>(⟨s.toArray⟩:ByteArray)) ⟨#[32]⟩ w (λj x u=>?_) (af c) (by rw[b];omega) (by rw[b];exact k) (by rw[d];exact o)
 .rw[d,b]at H;exact H
 rw[em,ab c];have a:(i.toList.take (l.length*1))[j]?=X (.string x):=by rw[m,CS,List.getElem?_map,u];rfl
 rw[List.getElem?_take]at a;split at a
 .rw[<- a,Array.getElem?_toList]
 cases a
theorem pn(s:Bs)(w:cu):e4 prog 282 #[S s,S [48]] w λe w'=>e=ch (S (s.dropWhile (· ==48)))/\w'=w:=
 Any.strings_TrimLeft_one Bv ⟨s.toArray⟩ 48 (by decide) w
theorem jQ(s:Bs)(b:Nat)(a:b<s)(k:Nat):checkGo k (s.take (b+1))=checkGo k (s.take b)+valB (s.getD b 0)*(1+2*((k+b)%2)):=by
 induction s generalizing b k with
 |nil=>simp at a
 |cons c l ih=>
  cases b with
  |zero=>simp[checkGo]
  |succ b=>
   have d:b<l:=by simpa using a
   have h:=ih b d (k+1);simp only[fb,checkGo,fc];rw[h,show k+1+b=k+(b+1) by omega];omega
theorem mV(s:Bs)(k:Nat)(h:∀c∈s,valB c<=255):checkGo k s<=765*s:=by
 induction s generalizing k with
 |nil=>simp[checkGo]
 |cons c l ih=> have d:=ih (k+1) λx b=>h x (dd _ b);have a:=h c dx;simp only[checkGo,cp];have e:valB c*(1+2*(k%2))<=255*3:=e2 a (by omega);omega
theorem eo{c:UInt8}(h:digitB c=true):48<=c.toNat/\c.toNat<=57:=by
 unfold digitB at h;simp only[Bool.and_eq_true,decide_eq_true_eq]at h;exact h
theorem oV(s:Bs)(w:cu)(B:12<=s.length)(hs:s.length<=1000)(a:(s.take 12).all digitB=true):e4 prog 240 #[S s] w λe w'=>e=ch (J cm (checkR s).toNat)/\Bw w w':=by
 obtain⟨t,f⟩:=Qe (s.take 12);have m:t.length=12:=by rw[<- f];simp;omega
 have v:Hid (checkR s=UInt8.ofNat (48+(10-checkGo 0 t%10)%10)):=by unfold Hid;rw[<- f];rfl
 rw[f]at a;obtain⟨H,w1,P,n,N,M,d,A⟩:=mX t w;have G:=Z n;have o:=Z d;have p:Hid (∀k(h:k<t.length),digitB t[k]=true):=λk h=>by rw[cz]at a;exact a _ (cy h)
 have g:Hid (∀k,checkGo 0 (t.take k)<=765*12):=λk=>by
  have:=mV (t.take k) 0 (λc d=>by
   have l:digitB c=true:=by rw[cz]at a;exact a _ (e8 d)
   have z:=eo l;unfold valB;omega)
  have L:(t.take k).length<=12:=by rw[er];omega
  omega
 have a1:(12:Int)<=(s.length:Int):=by omega
 have F:=Z m;have a2:t.length<=12:=by omega
 have b:((s.take 12).length:Int)=t:=by rw[f]
 clear n d A a B m;go_enter func240,ntmps240;go_wp2_with fail;go_loop [3,4,5,10] (λE _a _c i=>∃(k:Nat),k<=t/\i=J U k/\E=J U (checkGo 0 (t.take k):Nat)) (λ_ _ _ i=>t-(intOf i).toNat)
 case atStart=>exact⟨0,ds _,rfl,rfl⟩
 obtain⟨k,Q,rfl,rfl⟩:=hrel;by_cases b:k<t
 .have C:=g k;have O:=o k b;obtain⟨l,z⟩:=eo (p k b);have j:Hid (checkGo 0 (t.take (k+1))=checkGo 0 (t.take k)+(t[k].toNat-48)*(1+2*(k%2))):=by unfold Hid;rw[jQ t k b,em];simp[valB,e0,e3 b]
  generalize checkGo 0 (t.take k)=q at*;have T:((k:Int)%2)=((k%2:Nat):Int):=by omega
  have V:(Int.tmod (k:Int) 2)=((k%2:Nat):Int):=by rw[cq (by omega)];omega
  have R:k%2<2:=Nat.mod_lt _ (by omega);generalize k%2=r at*;have D:r=0∨r=1:=by omega
  rcases D with rfl|rfl
  .go_wp2_with fail;go_round
   case rel=>exact⟨k+1,by omega,by go_num,by rw[j.o];go_num⟩
   simp[intOf];omega
  go_wp2_with fail;go_round
  case rel=>exact⟨k+1,by omega,by go_num,by rw[j.o];go_num⟩
  simp[intOf];omega
 have C:=g k;have u:Hid (checkGo 0 (t.take k)=checkGo 0 t):=by unfold Hid;rw[cP (by omega)]
 have I:Int.tmod ((checkGo 0 (t.take k):Nat):Int) 10=((checkGo 0 (t.take k)%10:Nat):Int):=by rw[cq (by omega)];omega
 generalize checkGo 0 (t.take k)=q at*;have W:q%10<10:=Nat.mod_lt _ (by omega);generalize hqq:q%10=r at*;have K:Int.tmod (10-(r:Int)) 10=(((10-r)%10:Nat):Int):=by rw[cq (by omega)];omega
 have a0:(10-r)%10<10:=Nat.mod_lt _ (by omega);rw[u.o]at hqq;have y:Hid (checkR s=UInt8.ofNat (48+(10-r)%10)):=by unfold Hid;rw[v.o,hqq]
 generalize(10-r)%10=x at*;go_wp2_with fail;go_ret;refine⟨?_, ‹Below _ _ _›⟩;rw[y.o];simp;omega
theorem rd(s:Bs)(b:Nat)(a:b<s)(k:Nat):tenSum k (s.take (b+1))=tenSum k (s.take b)+(10-(k+b))*(if s.getD b 0=88 then 10 else valB (s.getD b 0)):=by
 induction s generalizing b k with
 |nil=>simp at a
 |cons c l ih=>
  cases b with
  |zero=>simp[tenSum]
  |succ b=>
   have d:b<l:=by simpa using a
   have h:=ih b d (k+1);simp only[fb,tenSum,fc];rw[h,show k+1+b=k+(b+1) by omega];omega
theorem wm(s:Bs)(k:Nat)(h:∀c∈s,digitB c=true∨c=88):tenSum k s<=100*s:=by
 induction s generalizing k with
 |nil=>simp[tenSum]
 |cons c l ih=>
  have e:=ih (k+1) λx d=>h x (dd _ d);have a:=h c dx;simp only[tenSum,cp];have b:(if c=88 then 10 else valB c)<=10:=by
   split
   .omega
   rcases a with a|a
   .have:=eo a;unfold valB;omega
   contradiction
  have f:(10-k)*(if c=88 then 10 else valB c)<=10*10:=e2 (by omega) b;omega
theorem mj(s:Bs)(w:cu)(z:s.length=10)(f:∀c∈s,digitB c=true∨c=88):e4 prog 239 #[S s] w λe w'=>e=ch (cl (decide (tenSum 0 s%11=0)&&(s.take 9).all digitB))/\Bw w w':=by
 obtain⟨F,w1,O,l,M,L,b,y⟩:=mX s w;have E:=Z l;have n:=Z b;have o:Hid (∀k(h:k<s.length),digitB s[k]=true∨s[k]=88):=λk h=>f _ (cy h);have g:Hid (∀k,tenSum 0 (s.take k)<=1000):=λk=>by
  have:=wm (s.take k) 0 (λc b=>f c (e8 b));have K:(s.take k).length<=10:=by rw[er];omega
  omega
 have Q:s.length<=10:=by omega
 have R:10<=s.length:=by omega
 have d:∀W,e4 prog 230 #[S (s.take 9)] W λe w'=>e=ch (cl ((s.take 9).all digitB))/\Bw W w':=λW=>dX _ W (by rw[er];omega);have d:=Z d;clear l b y f z;go_enter func239,ntmps239;go_wp2_with fail;go_loop [3,4,5,6,10] (λD _a _c _n i=>∃(k:Nat),k<=s/\i=J U k/\D=J U (tenSum 0 (s.take k):Nat)) (λ_ _ _ _ i=>s-(intOf i).toNat)
 case atStart=>exact⟨0,ds _,rfl,rfl⟩
 obtain⟨k,P,rfl,rfl⟩:=hrel;by_cases hlt:k<s;rotate_left
 .have A:=g k;have p:Hid (tenSum 0 (s.take k)=tenSum 0 s):=by unfold Hid;rw[cP (by omega)]
  have G:Int.tmod ((tenSum 0 (s.take k):Nat):Int) 11=((tenSum 0 (s.take k)%11:Nat):Int):=by rw[cq (by omega)];omega
  have j:Hid (tenSum 0 (s.take k)%11=tenSum 0 s%11):=by unfold Hid;rw[p.o]
  generalize tenSum 0 (s.take k)%11=r at*;by_cases hr:r=0
  .subst hr;go_wp2_with (go_at_call 230;(refine cv (d.o _) ?_;rintro e w2⟨rfl,v⟩))
   go_ret;refine⟨by rw[<- j.o];simp,(‹Bw w w1›).trans (v.mono (‹Bw w w1›).size)⟩
  have T:((r:Int)==0)=false:=by simp;omega
  go_wp2_with fail;go_ret;exact⟨by rw[<- j.o];simp[hr], ‹Below _ _ _›⟩
 have A:=g k;have N:=n k hlt;have a:Hid (tenSum 0 (s.take (k+1))=tenSum 0 (s.take k)+(10-k)*(if s[k]=88 then 10 else s[k].toNat-48)):=by unfold Hid;rw[rd s k hlt,em];simp[valB,e0,e3 hlt]
 generalize tenSum 0 (s.take k)=q at*;have x:=o k hlt;generalize s[k]=c at*;by_cases hx:c=88
 .subst hx;rw[if_pos rfl]at a;have C:(10-(k:Int))*10=(((10-k)*10:Nat):Int):=by omega
  generalize(10-k)*10=m at*;have B:m<=100:=by omega
  go_wp2_with fail;go_round
  case rel=>exact⟨k+1,by omega,by go_num,by rw[a.o];go_num⟩
  simp[intOf];omega
 rw[if_neg hx]at a;obtain⟨H,I⟩:=eo (x.resolve_right hx);have V:¬((c.toNat:Int)=88):=by omega
 have a0:((c.toNat:Int)==88)=false:=by simp;omega
 have C:(10-(k:Int))*((c.toNat:Int)-48)=(((10-k)*(c.toNat-48):Nat):Int):=by
  have t:((10-k:Nat):Int)=10-(k:Int):=by omega
  have u:((c.toNat-48:Nat):Int)=(c.toNat:Int)-48:=by omega
  rw[Int.natCast_mul,t,u]
 have B:(10-k)*(c.toNat-48)<=10*9:=e2 (by omega) (by omega);generalize(10-k)*(c.toNat-48)=m at*;go_wp2_with fail;go_round
 case rel=>exact⟨k+1,by omega,by go_num,by rw[a.o];go_num⟩
 simp[intOf];omega
def foldN(l:Bs):Int:=l.foldl (λn c=>10*n+((c.toNat:Int)-48)) 0
theorem jh(l:Bs)(k:Nat)(h:k<l):foldN (l.take (k+1))=10*foldN (l.take k)+((l[k].toNat:Int)-48):=by
 unfold foldN;rw[List.take_succ_eq_append_getElem h,List.foldl_append];rfl
theorem mI(l:Bs)(h:∀c∈l,digitB c=true):∀k,k<=l.length->0<=foldN (l.take k)/\foldN (l.take k)<10^k:=by
 intro k;induction k with
 |zero=>intro _;simp[foldN]
 |succ k ih=>
  intro d;have a:=ih (by omega);have b:=eo (h _ (cy (show k<l by omega)));rw[jh l k (by omega)];have:(10:Int)^(k+1)=10*10^k:=by rw[Int.pow_succ,Int.mul_comm]
  omega
theorem ul(s:Bs)(w:cu)(N:s.length<=1000000):e4 prog 232 #[S s] w λe w'=>e=ch (aP s)/\Bw w w':=by
 by_cases hl:s.length=4;rotate_left
 .have a:Hid (aP s= -1):=by unfold Hid aP;rw[if_neg (λh=>hl h.1)]
  have g:((s.length:Int)==4)=false:=by simp;omega
  have j:((s.length:Int)!=4)=true:=by simp;omega
  go_enter func232,ntmps232;go_wp2_with fail;go_ret;exact⟨aI a.symm,cQ _ _⟩
 have H:=Z (λW=>pm ⟨s.toArray⟩ W (by show s.length<=_;omega));have b:=Z (lS s);change Hid (∀W,e4 prog 204 #[S s,.string ⟨#[48,49,50,51,52,53,54,55,56,57]⟩] W λe w'=>e=ch (S (e9 s ji))/\Bw W w')at H;generalize e9 s ji=t at*;have g:((s.length:Int)==4)=true:=by simp;omega
 have j:((s.length:Int)!=4)=false:=by simp;omega
 by_cases hd:s.all digitB=true;rotate_left
 .have a:Hid (aP s= -1):=by unfold Hid aP;rw[if_neg (λh=>hd h.2)]
  have B:¬t=[]:=λh=>hd (b.1 h);clear hl hd;have O:(t==[])=false:=by simpa using B
  go_enter func232,ntmps232;go_wp2_with (go_at_call 204;(refine cv (H.o _) ?_;rintro e n⟨rfl,d⟩))
  go_ret;exact⟨aI a.symm,d⟩
 have A:t=[]:=b.2 hd;subst A;have a:Hid (aP s=foldN s):=by unfold Hid aP;rw[if_pos ⟨hl,hd⟩];rfl
 have p:Hid (∀k,(h:k<s.length)->digitB s[k]=true):=λk h=>by rw[cz]at hd;exact hd _ (cy h)
 have u:Hid (∀k,k<=s.length->0<=foldN (s.take k)/\foldN (s.take k)<10^k):=mI s (λc f=>by rw[cz]at hd;exact hd c f);have K:s.length<=4:=by omega
 clear hd hl b;go_enter func232,ntmps232;go_wp2_with (go_at_call 204;(refine cv (H.o _) ?_;rintro e n⟨rfl,d⟩;obtain⟨E,w1,I,m,F,x,f,y⟩:=mX s n;have D:=Z m;have o:=Z f;clear m f y))
 go_loop [3,5,17] (λC _c i=>∃(k:Nat),k<=s.length/\i=J U k/\C=J U (foldN (s.take k))) (λ_ _ i=>s.length-(intOf i).toNat)
 case atStart=>exact⟨0,ds _,rfl,rfl⟩
 obtain⟨k,z,rfl,rfl⟩:=hrel;obtain⟨L,l⟩:=u k z;have M:foldN (s.take k)<10000:=Int.lt_of_lt_of_le l (by
  have:(10:Nat)^k<=10^4:=Nat.pow_le_pow_right (by omega) (by omega);have v:(((10:Nat)^k:Nat):Int)<=((10^4:Nat):Int):=by exact_mod_cast this
  simpa using v)
 clear l;by_cases hlt:k<s.length
 .have G:=o k hlt;obtain⟨g,j⟩:=eo (p k hlt);have b:=Z (jh s k hlt);generalize foldN (s.take k)=q at*;go_wp2_with fail;go_round
  case rel=>exact⟨k+1,by omega,by go_num,by rw[b.o]⟩
  simp[intOf];omega
 have r:Hid (foldN (s.take k)=foldN s):=by unfold Hid;rw[cP (by omega)]
 generalize foldN (s.take k)=q at*;go_wp2_with fail;go_ret;refine⟨aI ?_,d.trans (x.mono d.size)⟩;rw[a.o,r.o]
end
end Go.Proofs.YtjcimanddakkaaaGreatDoor
