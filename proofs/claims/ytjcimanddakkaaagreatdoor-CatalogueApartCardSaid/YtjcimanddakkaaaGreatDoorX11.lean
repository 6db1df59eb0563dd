/- Lemmas. -/
import Derived.Test.YtjcimanddakkaaaGreatDoorX0
import Derived.Test.YtjcimanddakkaaaGreatDoorX1
import Derived.Test.YtjcimanddakkaaaGreatDoorX3
import Derived.Test.YtjcimanddakkaaaGreatDoorX10
import Derived.KernelRfl
import Derived.RangeFuncBox
import Derived.Maps.OwnIn
import Derived.Shelf.Strings.Builder2
import Derived.Shelf.Small.Utf8
import Derived.Shelf.Small.Bits
import Derived.Shelf.Small.Strs
import Derived.Shelf.Small.Wraps
import Derived.Shelf.Strings.BuilderF
import Derived.Shelf.Strings.BuilderK
import Derived.Shelf.Strings.BuilderRune
import Derived.Shelf.Utf8.AppendRune
import Derived.Shelf.Utf8.AppendRunePlain
import Derived.Shelf.Utf8.RuneCount
import Derived.Shelf.Strings.Builder2Cap
import Derived.Shelf.Strconv.Itoa0
import Derived.Shelf.Strings.Search1
import Derived.Shelf.Strings.Search2
import Derived.Shelf.Strings.Cut
import Derived.Shelf.Strings.Count
import Derived.Shelf.LaysM
import Derived.Shelf.Strings.Shaped
import Derived.Shelf.Sort.Plain
import Derived.Shelf.Strings.Prefix
import Derived.Shelf.Strings.Split
import Derived.Shelf.Unicode.Latin
import Derived.Shelf.Unicode.Decode
import Derived.Shelf.Strings.RuneCount
import Derived.Shelf.Strings.AsciiSet
import Derived.Shelf.Unicode.DecodeSlow
import Derived.Shelf.Unicode.DecodeLast
import Derived.Shelf.Unicode.CaseLookup
import Derived.Shelf.Unicode.CaseConvert
import Derived.Shelf.Unicode.CaseTo
import Derived.Shelf.Unicode.CaseLaid
import Derived.Shelf.Strings.BuilderCap
import Derived.Shelf.Slices.Equal
import Derived.Ground.Names2Prog
import Derived.Shelf.Slices.SearchI
import Derived.Shelf.Slices.Cells
import Derived.Shelf.Slices.In.SortNone
import Derived.Shelf.Slices.Empties2
import Derived.Ground.SlsfProg
import Derived.Shelf.SlSortCmp.InsertionK
import Derived.Shelf.SlSortCmp.SiftDownK
import Derived.Shelf.SlSortCmp.HeapSortK
import Derived.Shelf.SlSortCmp.MedianK
import Derived.Shelf.SlSortCmp.PivotK
import Derived.Shelf.SlSortCmp.ReverseRangeK
import Derived.Shelf.SlSortCmp.PartialInsertionK
import Derived.Shelf.SlSortCmp.PartitionEqualK
import Derived.Shelf.SlSortCmp.PartitionK
import Derived.Shelf.SlSortCmp.PdqK
set_option maxRecDepth 100000
set_option maxHeartbeats 8000000
namespace Go.Proofs.YtjcimanddakkaaaGreatDoor
open Go.Lib renaming hid→a0a
open Go.Proofs.Tryz renaming prog→a0b
open _root_.List renaming length_cons→a0c,append_toArray→a0i,size_toArray→a0m,push_toArray→a0n,cons_append→a0o,nil_append→a0p,length_nil→a0q,length_append→a0w
open _root_.Nat renaming le_refl→a0d,lt_of_lt_of_le→a0l,reduceSub→a0u,reduceAdd→a0v
open Go renaming World→a0e
open Go.Utf8 renaming decode→a0f
open _root_.Array renaming replicate_zero→a0g,replicate_succ→a0h
open Go.World renaming iterPos→a0j,ownsRow_nil→a0k,cell?_alloc_new→a0t
open Go.Fence renaming wide→a0r
open Go.RowKit.Below renaming refl→a0s
open Go.Calls renaming mono→a0x
section
open Go.RowKit Go.Maps
theorem wm (w:a0e) (a:Array Value) (t:TypeId) (l:List Bs) (n b:Nat) (c:n=l.length) (h:a.toList=l.map λs=>S s):
 iw 0 (w.alloc (.cells a t)).heap.size (w.alloc (.cells a t)) (.slice (some ⟨w.heap.size,0,none⟩) n b) l:=by
 subst c;refine ⟨_,b,rfl,λ_=>⟨w.heap.size,0,rfl,Nat.zero_le _,by simp,λj x d=>?_⟩⟩;rw [Nat.zero_add, <- h] at *;exact (a0t w a t j).trans (by simpa using d)
theorem yv:∀p∈rowsS,(32:UInt8)∉p.1/\p.1.length+p.2.length<=1000:=by decide+kernel
theorem wH:(dv rowsS).length<=1000000:=by
 have h:((dv rowsS).map (·.1)).length<=1000000:=by rw [pD];decide+kernel
 rwa [List.length_map] at h
theorem qi (w:a0e):Calls a0b 248 #[] w λe w'=>∃b,e= .returned (.map (some b))/\w.heap.size<=b/\ak gT w' b (dv rowsS)/\Below w.heap.size w w':=by
 go_enter Tryz.func248,Tryz.ntmps248;go_wp2_with (go_at_call 292;((refine a0x (o7 rowsS _ _ (wm w _ 9 (rowsS.map rowText) 31 31 (by kernel_rfl) (by kernel_rfl)) yv (by decide+kernel) ur wH) ?_);rintro e w1 ⟨rfl,c,a⟩))
 go_ret;exact ⟨w.heap.size+1,by simp,by omega,by simpa using c,((a0s _ w).alloc (a0d _) _).trans (a.mono (by simp))⟩
end
section
open Go.RowKit Go.Maps Go.Shelf
attribute [local go_sem] Oper.semAt_some
theorem mN (u:Nat) (p v:Value) (w:a0e) (h:w.heap[u]? =some (.cells #[p,v] 187 (0,0))):
 Calls a0b 250 #[.pointer (some ⟨u,0,none⟩)] w λe w'=>e= .returned (.tuple #[])/\w'.heap[u]? =some (.cells #[.pointer none, .slice none 0 0] 187 (0,0))/\aq u w w':=by
 have a:w.cell? ⟨u,0,none⟩=some p:=by rw [aa h];rfl
 have c1:w.cell? ⟨u,1,none⟩=some v:=by rw [aa h];rfl
 have b:w.frozen? ⟨u,0,none⟩=false:=ab h 0;have c:w.frozen? ⟨u,1,none⟩=false:=ab h 1;have H:=a0a h;clear h;go_enter Tryz.func250,Tryz.ntmps250;go_wp2_with fail
 go_end0
 exact ⟨rfl,(an (an H.out 0 _) 1 _).trans rfl,aq.setCell (aq.setCell (aq.refl u w) 0 _) 1 _⟩
def Mw (b u:Nat) (g:Option Nat) (k:Nat):Prop:=k=b∨k=u∨k=u+1∨some k=g
theorem s9 (x:ByteArray) (h:x.size<=4):(o0 x).length<=4:=by
 show x.data.toList.length<=4;rw [Array.length_toList];exact h
theorem zo (c:Nat):(enc c).length<=4:=s9 _ (Go.encode_size_le (c:Int))
theorem mZ (c:Nat):(bx c).length<=4:=by
 have a:=zo;unfold bx;split
 · exact a _
 · split
   · exact a _
   · split
     · simp
     · split
       · simp
       · split
         · rename_i s h;have:∀l:List (Bs×List Nat),(∀p∈l,p.1.length<=4)->∀s,rowIn c l=some s->s.length<=4:=by
            intro l;induction l with
            |nil=>intro _ s h;cases h
            |cons p l ih=>
             intro b s h;obtain ⟨t,m⟩:=p;unfold rowIn at h;split at h
             · injection h with h;rw [<- h];exact b _ List.mem_cons_self
             · exact ih (λq d=>b q (List.mem_cons_of_mem _ d)) s h
           exact this rowsK (by decide+kernel) s h
         · split
           · exact a _
           · split
             · exact a _
             · split
               · exact a _
               · simp
structure zH (J:(Nat->Prop)->List Bs->a0e->Prop) (s:Bs) (b u:Nat) (wr:a0e) (pos:Nat) (rest:List Nat) (pre:List Bs) (l:Bs) (g:Option Nat):Prop where
 it:wr.heap[u+1]? =some (.stringIter ⟨s.toArray⟩ pos)
 bld:Bld (u+2) u g l wr
 tab:ak gT wr b (dv rowsS)
 j:J (Mw b u g) pre wr
 all:pre++be rest l=ba s
 run:fh ⟨s.toArray⟩ pos rest
 len:l.length<=4 * pos
 pos:pos<=s.length
def uf (J:(Nat->Prop)->List Bs->a0e->Prop) (s:Bs) (b u:Nat) (wr:a0e):Prop:=∃a d c l g,zH J s b u wr a d c l g
theorem tv {B b u:Nat} {g d:Option Nat} {X Y:a0e} (a:Fr u g X Y) (l:d=g∨∃k,d=some k/\X.heap.size<=k) (i:∀k,d=some k->k<Y.heap.size) (m:b<X.heap.size) (o:u+1<X.heap.size):cN B (Mw b u g) X (Mw b u d) Y:=
 ⟨a.os,a.tape,a.output,a.size,λk c f _=>a.block k c (λe=>f (.inr (.inl e))) (λe=>f (.inr (.inr (.inr e)))),λk c=>by
  rcases c with h|h|h|h
  · exact .inl (.inl h)
  · exact .inl (.inr (.inl h))
  · exact .inl (.inr (.inr (.inl h)))
  · rcases l with e|⟨j,e,n⟩
    · exact .inl (.inr (.inr (.inr (by rw [h,e]))))
    · rw [e] at h;injection h with h;exact .inr (by omega),λk c=>by
  have:=a.size
  rcases c with rfl|rfl|rfl|h
  · omega
  · omega
  · omega
  · exact i k h.symm⟩
theorem xw {b u:Nat} {g:Option Nat} {X Y:a0e} (c:Fr u g X Y) (d:∀k,g=some k->u+2<=k) (k:Nat) (f:k<X.heap.size) (a:k≠u) (h:k<u+2) (_:b=b):Y.heap[k]? =X.heap[k]? :=
 c.block k f a λe=>by have:=d k e.symm;omega
theorem nM {g:Option Nat} {n:Nat} {X Y:a0e} (h:vT g n X Y) (k:Nat) (b:k<X.heap.size) (a:some k≠g):Y.heap[k]? =X.heap[k]? :=(h.fr (k+1)).block k b (by omega) a
theorem mI {B b u:Nat} {g:Option Nat} {n:Nat} {X Y:a0e} (h:vT g n X Y) (c:∀k,g=some k->k<X.heap.size) (a:b<X.heap.size) (e:u+1<X.heap.size):cN B (Mw b u g) X (Mw b u g) Y:=
 tv (h.fr u) (.inl rfl) (λk d=>a0l (c k d) (h.fr u).size) a e
theorem mQ {B b u:Nat} {g:Option Nat} {X Y:a0e} (h:aq u X Y) (c:b<X.heap.size) (f:u+1<X.heap.size):cN B (Mw b u g) X (Mw b u none) Y:=
 ⟨h.os,h.tape,h.output,by rw [h.size];exact a0d _,λk _ d _=>h.block k (λe=>d (.inr (.inl e))),λk a=>by
  rcases a with e|e|e|e
  · exact .inl (.inl e)
  · exact .inl (.inr (.inl e))
  · exact .inl (.inr (.inr (.inl e)))
  · exact absurd e (by simp),λk a=>by
  rw [h.size]
  rcases a with rfl|rfl|rfl|e
  · exact c
  · omega
  · exact f
  · exact absurd e (by simp)⟩
theorem je (n:Nat) (hn:1<=n) (w:Nat) (s:Bs) (hs:s.length<=1000000) (w0:a0e) (B:w0.cell? ⟨w,0,none⟩=some (S s)):
 iY a0r n a0b 247 #[.pointer (some ⟨w,0,none⟩)] (λx:Bs=> #[S x]) (λxs=>xs=ba s) (λm=>m≠[]/\m<+:ba s) (λm x=>x≠[]/\m++[x]<+:ba s) (λ_=>False) w0:=by
 intro cg J Jx W hW hJ hY h0;have c0:W.cell? ⟨w,0,none⟩=some (S s):=(hW.cell (p:=⟨w,0,none⟩) (bq B)).trans B;have y:=a0a hJ;have HY:=a0a hY;have H0:=a0a h0;clear hJ hY h0 hW B;refine callsIn_of_wp Tryz.func247 rfl trivial ?_ rfl;simp only [Tryz.ntmps247,a0m,a0c,a0q,a0v,a0u,a0h,a0g,a0n,a0i,a0p,a0o];gi_wp2_with (refine ⟨trivial,?_⟩;gi_at_call 248;refine (callsIn_wide.2 (qi _)).mono ?_;rintro e w1 ⟨b,rfl,bs,hm,Z⟩;have bY:w<w1.heap.size:=(a0l (bq c0) Z.size);have c1:w1.cell? ⟨w,0,none⟩=some (S s):=(Z.cell (p:=⟨w,0,none⟩) (bq c0)).trans c0;obtain ⟨u,X⟩:∃u,w1.heap.size=u:=⟨_,rfl⟩;rw [X] at bY)
 have c5:=Z.size;have c7:b<u:=by rw [<- X];exact hm.lt
 have av:=kg w1 u (u+2) X.symm (by omega);have R:Below W.heap.size W ((w1.alloc (.cells #[.pointer none, .slice none 0 0] 187)).alloc (.stringIter ⟨s.toArray⟩ 0)):=(Z.alloc c5 _).alloc (by simp;omega) _;have b2:uf J s b u ((w1.alloc (.cells #[.pointer none, .slice none 0 0] 187)).alloc (.stringIter ⟨s.toArray⟩ 0)):=by
  refine ⟨0,runesR s,[],[],none,⟨?_,av.alloc _,(hm.alloc _).alloc _,y.out _ _ _ _ _ H0.out ⟨R.os,R.tape,R.output,R.size,λk a _ _=>R.block k a,λk a=> .inr ?_,λk a=>?_⟩,rfl,fM s,by simp,Nat.zero_le _⟩⟩
  · have:=World.alloc_heap_new (w1.alloc (.cells #[.pointer none, .slice none 0 0] 187)) (.stringIter ⟨s.toArray⟩ 0);rwa [World.size_alloc,X] at this
  · rcases a with rfl|rfl|rfl|h
    · exact bs
    · omega
    · omega
    · cases h
  · simp only [World.size_alloc,X];rcases a with rfl|rfl|rfl|h
    · omega
    · omega
    · omega
    · cases h
 have b8:=a0a b2;clear b2 av hm;gi_loopw [] (λwr=>uf J s b u wr) (λwr=>s.length - wr.iterPos (u+1))
 case atStart=>exact b8.out
 case round=>
  obtain ⟨i,t,m,l,g,h⟩:=hrel;have I:=h.it;have ad:wr.iterPos (u+1)=i:=by simp [a0j,I]
  have cc:u+1<wr.heap.size:=(Array.getElem?_eq_some_iff.1 I).1;have H:=a0a h;clear h;cases t with
  |nil=>
   have bO:¬i<(⟨s.toArray⟩:ByteArray).size:=by have:i=(⟨s.toArray⟩:ByteArray).size:=H.out.run;omega
   have b0:∀C,(Instr.next (.pointer (some ⟨u+1,0,none⟩)) true C).run a0b wr=_:=λC=>Lib.run_next_end_at wr (u+1) ⟨s.toArray⟩ i C I bO;have r:=a0a H.bld;have D:=a0a H.all;have F:=a0a H.j;have v:b<wr.heap.size:=H.tab.lt;have bA:=H.len;have cb:=H.pos;by_cases hl0:l=[]
   · subst hl0
     gi_wp2_with (first
      |(refine ⟨trivial,?_⟩;gi_at_call 114;refine (callsIn_wide.2 (oz (u+2) u g _ _ r.out)).mono ?_;rintro e o ⟨rfl,d⟩;have d:=d.symm;subst d))
     go_end0
     have h1:=D.out;simp only [be,if_true,List.append_nil] at h1;exact ⟨⟨_,rfl⟩, .inl ⟨_,m,h1,F.out⟩⟩
   · have bB:(0:Int)<(l.length:Int):=by have:=List.length_pos_iff.2 hl0;omega
     have A:m++[l]=ba s:=by rw [<- D.out];simp [be,hl0]
     have ac:l≠[]/\m++[l]<+:ba s:=⟨hl0,by rw [<- A];exact List.prefix_refl _⟩;have L:=a0a A;clear A hl0
     gi_wp2_with (first
      |(refine ⟨trivial,?_⟩;gi_at_call 114;refine (callsIn_wide.2 (oz (u+2) u g _ _ r.out)).mono ?_;rintro e o ⟨rfl,d⟩;have d:=d.symm;subst d)
      |(refine ⟨trivial,?_⟩;gi_at_call 115;refine (callsIn_wide.2 (eO (u+2) u g l _ r.out (by omega))).mono ?_;rintro e o ⟨rfl,K⟩;have T:J (Mw b u g) m o:=y.out _ _ _ _ _ F.out (mI K (λk a=>(r.out.row k a).2) v (by omega));obtain ⟨fn,c6,bb,bc,hy,P⟩:=HY.out _ m l o T ac;have HR:=a0a P;clear P T))
     refine HR.mono ?_;rintro e w3 (⟨rfl,a1,U,_⟩|⟨rfl,a9⟩)
     · gi_wp2
       go_end0
       exact ⟨⟨_,rfl⟩, .inl ⟨_,m++[l],L.out,a1⟩⟩
     · gi_wp2
       go_end0
       exact ⟨⟨_,rfl⟩, .inr ⟨_,m++[l],⟨by simp,by rw [<- L.out];exact List.prefix_refl _⟩,a9⟩⟩
  |cons c t=>
   obtain ⟨hp,B,cd,b5,b1⟩:=H.run;have b0:∀C,(Instr.next (.pointer (some ⟨u+1,0,none⟩)) true C).run a0b wr=_:=λC=>Lib.run_next_any_at wr (u+1) ⟨s.toArray⟩ i C I hp;have aC:=Lib.iterAt_heap wr (u+1) ⟨s.toArray⟩ i (i+(a0f ⟨s.toArray⟩ i).2) I;have V:∀k,k≠u+1->(wr.iterAt (u+1) ⟨s.toArray⟩ (i+(a0f ⟨s.toArray⟩ i).2)).heap[k]? =wr.heap[k]? :=λk a=>Lib.iterAt_other _ _ _ _ _ a;have Q:=Lib.below_iterAt (a0s (u+1) wr) (k:=u+1) (a0d _) ⟨s.toArray⟩ (i+(a0f ⟨s.toArray⟩ i).2);have c2:=Lib.iterAt_size wr (u+1) ⟨s.toArray⟩ (i+(a0f ⟨s.toArray⟩ i).2);rw [B] at b0;have bt:c<=1114111:=by rw [<- B,dK];exact Lib.decodeL_rune _
   generalize (wr.iterAt (u+1) ⟨s.toArray⟩ (i+(a0f ⟨s.toArray⟩ i).2))=W1 at *;generalize (a0f ⟨s.toArray⟩ i).2=z at *;have al:i+z<=s.length:=b5;have a7:Bld (u+2) u g l W1:=H.out.bld.keep (V _ (by omega)) (λk a=>V _ (by have:=(H.out.bld.row k a).1;omega));have a2:ak gT W1 b (dv rowsS):=H.out.tab.block (V _ (by omega));have aS:J (Mw b u g) m W1:=y _ _ _ _ _ H.j ⟨Q.os,Q.tape,Q.output,Q.size,λk a hn _=>V k (λe=>hn (.inr (.inr (.inl e)))),λk a=> .inl a,λk a=>by
    rcases a with rfl|rfl|rfl|a
    · have:=a2.lt;exact this
    · omega
    · omega
    · exact (a7.row k a.symm).2⟩
   have bA:=H.len;have bv:=mZ c;have bk:u+2<=W1.heap.size:=by omega
   have r:=a0a a7;have N:=a0a a2;have F:=a0a aS;have a6:=a0a b1;have M:=a0a aC;have Y:=a0a (xx c b W1 bt a2);have D:=a0a H.all;clear a7 a2 aS b1 I aC V Q c2 B hp b5;by_cases hf:bx c=[32]
   · have E:Hid (be (c::t) l=if l=[] then be t [] else l::be t []):=by show be _ _=_;rw [be,if_pos hf]
     rw [hf] at Y;clear hf bv;have v:b<W1.heap.size:=N.lt;obtain ⟨_,p0,v0,b4,_⟩:=r.out;have au:=a0a b4;clear b4;by_cases hl0:l=[]
     · subst hl0;rw [if_pos rfl] at E
       gi_wp2_with (first
        |(refine ⟨trivial,?_⟩;gi_at_call 249;refine (callsIn_wide.2 Y.out).mono ?_;rintro e o ⟨rfl,d⟩;have d:=d.symm;subst d)
        |(refine ⟨trivial,?_⟩;gi_at_call 114;refine (callsIn_wide.2 (oz (u+2) u g _ _ r.out)).mono ?_;rintro e o ⟨rfl,d⟩;have d:=d.symm;subst d))
       refine ⟨trivial,?_⟩;gi_wp2
       refine ⟨λ_ h=>(by cases h),?_⟩;gi_wp2_with (refine ⟨trivial,?_⟩;gi_at_call 250;refine (callsIn_wide.2 (mN u p0 v0 _ au.out)).mono ?_;rintro e o ⟨rfl,c3,a3⟩)
       go_roundw
       case rel=>
        exact ⟨i+z,t,m,[],none,⟨(a3.block _ (by omega)).trans M.out,⟨by omega, .pointer none, .slice none 0 0,c3, .inl rfl,a0k _ _ _ _,rfl,λ_=>rfl⟩,N.out.block (a3.block _ (by omega)),
         y.out _ _ _ _ _ F.out (mQ a3 v (by omega)),by rw [<- E.out];exact D.out,a6.out,by simp,al⟩⟩
       case measure=>
        have O:o.iterPos (u+1)=i+z:=by simp [a0j,(a3.block (u+1) (by omega)).trans M.out]
        rw [O,ad];omega
     · rw [if_neg hl0] at E;have bB:(0:Int)<(l.length:Int):=by have:=List.length_pos_iff.2 hl0;omega
       have b7:=a0a hl0;clear hl0;have A:m++l::be t []=ba s:=by rw [<- E.out];exact D.out
       have ac:l≠[]/\m++[l]<+:ba s:=⟨b7.out,by rw [<- A];exact ⟨be t [],by simp⟩⟩;have L:=a0a A;clear A
       gi_wp2_with (first
        |(refine ⟨trivial,?_⟩;gi_at_call 249;refine (callsIn_wide.2 Y.out).mono ?_;rintro e o ⟨rfl,d⟩;have d:=d.symm;subst d)
        |(refine ⟨trivial,?_⟩;gi_at_call 114;refine (callsIn_wide.2 (oz (u+2) u g _ _ r.out)).mono ?_;rintro e o ⟨rfl,d⟩;have d:=d.symm;subst d)
        |(refine ⟨trivial,?_⟩;gi_at_call 115;refine (callsIn_wide.2 (eO (u+2) u g l _ r.out (by omega))).mono ?_;rintro e o ⟨rfl,K⟩;have T:J (Mw b u g) m o:=y.out _ _ _ _ _ F.out (mI K (λk a=>(r.out.row k a).2) v (by omega));obtain ⟨fn,c6,bb,bc,hy,P⟩:=HY.out _ m l o T ac;have HR:=a0a P;clear P T))
       refine HR.mono ?_;rintro e w3 (⟨rfl,a1,U,_⟩|⟨rfl,a9⟩)
       · have G:=λk a=>(r.row k a).1;have a8:∀q,q<u+2->some q≠g:=λq hq e=>by have:=G q e.symm;omega
         have b3:w3.heap[u]? =some (.cells #[p0,v0] 187 (0,0)):=(U u (.inr (.inl rfl))).trans ((nM K u (by omega) (a8 u (by omega))).trans au.out);have ay:w3.heap[u+1]? =some (.stringIter ⟨s.toArray⟩ (i+z)):=(U (u+1) (.inr (.inr (.inl rfl)))).trans ((nM K (u+1) (by omega) (a8 _ (by omega))).trans M.out);have aT:ak gT w3 b (dv rowsS):=N.out.block ((U b (.inl rfl)).trans (nM K b v (a8 _ (by omega))));have b9:=a0a b3;have a5:=a0a ay;have ao:=a0a aT;have b6:=a0a a1;clear b3 ay aT a1 U
         gi_wp2_with (first
          |(refine ⟨trivial,?_⟩;gi_at_call 250;refine (callsIn_wide.2 (mN u p0 v0 _ b9.out)).mono ?_;rintro e w4 ⟨rfl,c4,a4⟩))
         go_roundw
         case rel=>
          exact ⟨i+z,t,m++[l],[],none,⟨(a4.block _ (by omega)).trans a5.out,⟨by omega, .pointer none, .slice none 0 0,c4, .inl rfl,a0k _ _ _ _,rfl,λ_=>rfl⟩,ao.out.block (a4.block _ (by omega)),
           y.out _ _ _ _ _ b6.out (mQ a4 ao.out.lt (Array.getElem?_eq_some_iff.1 a5.out).1),by rw [List.append_assoc];exact L.out,a6.out,by simp,al⟩⟩
         case measure=>
          have O:w4.iterPos (u+1)=i+z:=by simp [a0j,(a4.block (u+1) (by omega)).trans a5.out]
          rw [O,ad];omega
       · gi_wp2
         refine bodyPost_ret (results_none rfl _ _ _) rfl ?_;exact ⟨⟨_,rfl⟩, .inr ⟨_,m++[l],⟨by simp,⟨be t [],by rw [List.append_assoc];exact L.out⟩⟩,a9⟩⟩
   · have E:Hid (be (c::t) l=be t (l++bx c)):=by show be _ _=_;rw [be,if_neg hf]
     generalize bx c=f at *;have c9:(f==[32])=false:=by simpa using hf
     clear hf
     gi_wp2_with (first
      |(refine ⟨trivial,?_⟩;gi_at_call 249;refine (callsIn_wide.2 Y.out).mono ?_;rintro e o ⟨rfl,d⟩;have d:=d.symm;subst d)
      |(refine ⟨trivial,?_⟩;gi_at_call 112;refine (callsIn_wide.2 (fV (u+2) u g l f _ r.out bk (by omega))).mono ?_;rintro e o ⟨rfl,g2,ax,bw,a0⟩))
     go_roundw
     case rel=>
      have G:=λk a=>(r.row k a).1;have v:b<W1.heap.size:=N.lt
      exact ⟨i+z,t,m,l++f,g2,⟨(xw a0 G (u+1) (by omega) (by omega) (by omega) (rfl:b=b)).trans M.out,ax,N.out.block (xw a0 G b v (by omega) (by omega) (rfl:b=b)),
       y.out _ _ _ _ _ F.out (tv a0 bw (λk a=>(ax.row k a).2) v (by omega)),by rw [<- E.out];exact D.out,a6.out,by rw [a0w];omega,al⟩⟩
     case measure=>
      have G:=λk a=>(r.row k a).1;have O:o.iterPos (u+1)=i+z:=by simp [a0j,(xw a0 G (u+1) (by omega) (by omega) (by omega) (rfl:b=b)).trans M.out]
      rw [O,ad];omega
end
section
open Go.RowKit Go.Maps Go.Shelf
attribute [local go_sem] Oper.semAt_some
theorem i9:(Tryz.prog.info? 9).map (λi=>(i.zero,i.size,i.bytes))=some (some (.string ⟨#[]⟩),1,16):=by kernel_rfl
structure fQ (w:a0e) (Bo:Nat) (M:Nat->Prop) (pre:List Bs) (W:a0e):Prop where
 o:∃v,Boxed W Bo 81 v/\W.ownsRow w.heap.size 9 1 v pre.length (pre.map λs=>S s)/\∀g,v.ownBlock=some g->¬M g
 b:Below w.heap.size w W
 lt:∀k,M k->k<W.heap.size/\w.heap.size<=k
 box:¬M Bo
theorem fQ.stable (w:a0e) (m B:Nat) (C:w.heap.size<=B):gA B (fQ w m):=by
 intro M s X z Y h c;obtain ⟨v,l,p,y⟩:=h.o;have x:∀k,k<X.heap.size->¬M k->(∃q t,X.heap[k]? =some (.cells q t (0,0)))->Y.heap[k]? =X.heap[k]? :=λk a r n=>by obtain ⟨q,t,n⟩:=n;exact c.block k a r λ_ o j=>by rw [n] at j;injection j with j;subst j;rfl
 refine ⟨⟨v,(x m (ae l) h.box ⟨_,_,l⟩).trans l,ah p (λg e=>?_),λg e f=>?_⟩,?_,λk i=>⟨c.lt k i,?_⟩,λf=>?_⟩
 · obtain ⟨A,u⟩:=aD p e;exact x g (ae u) (y g e) ⟨_,_,u⟩
 · have:=kJ p g e;rcases c.new g f with a|a
   · exact y g e a
   · omega
 · have d:=h.b;exact ⟨c.os.trans d.os,c.tape.trans d.tape,c.output.trans d.output,Nat.le_trans d.size c.size,λk i=>(c.block k (by have:=d.size;omega) (λf=>by have:=(h.lt k f).2;omega) (λr=>by omega)).trans (d.block k i)⟩
 · rcases c.new k i with a|a
   · exact (h.lt k a).2
   · have:=h.b.size;omega
 · rcases c.new m f with a|a
   · exact h.box a
   · have:=ae l;omega
theorem mq (n:Nat) (hn:3<=n) (g:Nat) (lb:Array Value) (Y:∀args w,(callFunc g args).run a0b w= .ok (.enter g args) w) (C T:List Bs->Prop) (G:List Bs->Bs->Prop) (hG:∀p x,G p x->p.length<100000000) (w:a0e)
 (a3:iY a0r (n - 1) a0b g lb (λx:Bs=> #[S x]) C T G (λ_=>False) w):
 CallsIn a0r n a0b 290 #[.slice none 0 0, .func (.func g) #[] lb] w λe w'=>∃(v:Value) (r:List Bs),e= .returned v/\C r/\w'.ownsRow w.heap.size 9 1 v r.length (r.map λs=>S s)/\Below w.heap.size w w':=by
 have y:1<=n:=by omega
 refine callsIn_of_wp_marks Tryz.func290 rfl trivial ?_ rfl;simp only [Tryz.ntmps290,a0m,a0c,a0q,a0v,a0u,a0h,a0g,a0n,a0i,a0p,a0o];gi_wp2
 have U:=Boxed.new w 81 (.slice none 0 0);have z:Below w.heap.size w (w.alloc (.cells #[.slice none 0 0] 81)):=(a0s _ w).alloc (a0d _) _
 refine km rfl y (gf:=g) (lb:=lb) rfl trivial Y a3 (λk a=>a.elim) z (λ_=>rfl) (fQ w w.heap.size) (λ_ _ _ _=>False) (fQ.stable w _ _ z.size) (λ_ _ _ _ _ _ h _=>h) (λM s X h k a=>(h.lt k a).1) (λ_ _ _ _ h=>h.elim)
  ⟨⟨_,U,a0k _ _ _ _,λg hg=>by cases hg⟩,z,λk a=>a.elim,λh=>h⟩
  (λx=>{tmps:= #[.slice none 0 0, .func (.func g) #[] lb, .pointer (some ⟨w.heap.size,0,none⟩),undef, .slice none 0 0,S x, .func (.func g) #[] lb,S x,undef,undef,undef,undef,undef],defers:=[]}) ?assign ?body ?done ?stop
 case assign=>
  intro l x W K f;gi_wp2
  exact f
 case body=>
  rintro l M p x W h I;have I:=hG _ _ I;obtain ⟨v,m,j,N⟩:=h.o;have hc:=m.cell;obtain ⟨i0,hi,a5,a6,a7⟩:=info_parts i9;have d:=a0a h.b;have t:=a0a j;have R:=a0a m;have B:=a0a N;have A:=a0a h;clear h j m N;gi_wp2_with (gi_at_builtin;refine wpListIn_append_own_at _ rfl _ _ 81 rfl w.heap.size 9 i0 (.string ⟨#[]⟩) 1 16 Tryz.underlying81 hi a5 a6 a7 rfl (by decide) _ _ _ rfl (t.out.alloc _) ⟨W.heap.size,0,none⟩ 1 1 [S x] rfl rfl (cell_one_new _ _ _) (by simp [Value.oneCell']) (by unfold maxLen;omega) (by omega) (by have:=d.out.size;simp;omega) ?_;intro v' w1 O H _ J;obtain ⟨Z,V,rfl⟩:=ownsRow_succ O;obtain ⟨P,a4,a2,a0,E⟩:=R.out.appended (by decide) t.out d.out.size (a0d _) O H;have a8:=P.cell;have a9:=P.frozen;have Q:=a0a J;clear J)
  have ac:=d.size;have u:=A.lt;have F:=A.box;have a1:∀k,M k->(w1.setCell ⟨w.heap.size,0,none⟩ (.slice (some ⟨Z,0,none⟩) (p.length+1) V)).heap[k]? =W.heap[k]? :=λk a=>by have y:=(u k a).1;rw [Below.heap_setCell _ _ _ _ (λ(e:k=w.heap.size)=>F (e ▸ a)),H.block k (by simp;omega) (λe=>B.out k e.symm a),Below.heap_alloc _ _ _ y]
  refine ⟨a0,a1,⟨⟨_,a4,?_,λq i L=>?_⟩,d.trans E,λk a=>⟨?_,(u k a).2⟩,F⟩⟩
  · rw [a0w,List.map_append];exact a2
  · rcases Q.out with e|e
    · exact B q (e ▸ i) L
    · rw [e] at i;injection i with i
      have:=(u q L).1;simp at i;omega
  · exact a0l (u k a).1 E.size
 case done=>
  rintro D M r W hD hS h f;obtain ⟨v,m,j,_⟩:=h.o;have hc:=m.cell;have t:=a0a j;have d:=a0a h.b;clear h j;gi_wp2
  refine ⟨by simp, .inl ⟨_,_,rfl,run_takeDeferred f,?_⟩⟩;exact ⟨_,results_tmp rfl _ _ _,v,r,rfl,hS,ownsRow_putObj t.out _ f rfl,d.out.trans (belowK_b (w:=w) (a0d _) W D _ _ (by simp at hD;omega) f rfl rfl)⟩
 case stop=> rintro D c M p W _ _ h _;exact h.elim
theorem qX (n:Nat) (o:4<=n) (g:Nat) (lb:Array Value) (f:∀args w,(callFunc g args).run a0b w= .ok (.enter g args) w) (b c:List Bs->Prop) (G:List Bs->Bs->Prop) (h:∀d x,G d x->d.length<100000000) (w:a0e)
 (l:iY a0r (n - 1 - 1) a0b g lb (λx:Bs=> #[S x]) b c G (λ_=>False) w):
 Calls a0b 243 #[.func (.func g) #[] lb] w λe w'=>∃(v:Value) (a:List Bs),e= .returned v/\b a/\w'.ownsRow w.heap.size 9 1 v a.length (a.map λs=>S s)/\Below w.heap.size w w':=by
 have m:1<=n:=by omega
 refine (callsIn_wide (n:=n)).1 ?_;refine callsIn_of_wp Tryz.func243 rfl trivial ?_ rfl;simp only [Tryz.ntmps243,a0m,a0c,a0q,a0v,a0u,a0h,a0g,a0n,a0i,a0p,a0o];gi_wp2_with (refine ⟨trivial,?_⟩;gi_at_call 290;refine (mq (n - 1) (by omega) g lb f b c G h _ l).mono ?_;rintro e w' ⟨v,a,rfl,i,k,j⟩)
 go_ret;exact ⟨v,a,rfl,i,k,j⟩
theorem jd (s:Bs) (w:a0e):Calls a0b 185 #[S s] w λe w'=>e= .returned (.func (.func 247) #[] #[.pointer (some ⟨w.heap.size,0,none⟩)])/\w'=w.alloc (.cells #[S s] 9):=by
 go_enter Tryz.func185,Tryz.ntmps185;go_wp2_with fail
 go_ret;exact ⟨rfl,rfl⟩
theorem pl (a:List Nat) (l:Bs):(be a l).length<=a.length+1:=by
 induction a generalizing l with
 |nil=>unfold be;split<;>simp
 |cons c a ih=>
  unfold be;split
  · split
    · have:=ih [];simp only [a0c];omega
    · have:=ih [];simp only [a0c];omega
  · have:=ih (l++bx c);simp only [a0c];omega
theorem el (s:Bs):(ba s).length<=s.length+1:=by
 have a:=pl (runesR s) [];have b:=kI s;unfold ba;omega
theorem uk (s:Bs) (g:s.length<=1000000) (w:a0e):Calls a0b 182 #[S s] w λe w'=>∃v,e= .returned v/\w'.ownsRow w.heap.size 9 1 v (ba s).length ((ba s).map λs=>S s)/\Below w.heap.size w w':=by
 have i:=el s;have a:=je 5 (by omega) w.heap.size s g (w.alloc (.cells #[S s] 9)) (by rw [a0t];rfl);have b:=a0a (qX 7 (by omega) 247 #[.pointer (some ⟨w.heap.size,0,none⟩)] (enters_of Tryz.func247 (by kernel_rfl) rfl) _ _ _ (λj x h=>by have:=h.2.length_le;simp at this;omega) _ a);clear a;go_enter Tryz.func182,Tryz.ntmps182
 go_wp2_with (first
  |(go_at_call 185;((with_reducible refine a0x (jd s _) ?_);rintro e w1 ⟨rfl,rfl⟩))
  |(go_at_call 243;((with_reducible refine a0x b.out ?_);rintro e w1 ⟨v,k,rfl,c,f,d⟩)))
 go_ret;obtain rfl:=c;exact ⟨v,rfl,bE f (by simp),((a0s _ w).alloc (a0d _) _).trans (d.mono (by simp))⟩
end
section
open Go.Shelf
def qo:Go.Shelf.Ren:=⟨λ|190=>186|125=>136|258=>251|128=>199|129=>200|302=>294|303=>295|304=>296|305=>297|306=>298|307=>299|308=>300|309=>301|310=>302|333=>325|329=>261|330=>262|334=>326|335=>327|336=>328|344=>341|n=>n,λ|31=>81|9=>9|3=>3|46=>218|0=>0|51=>277|53=>143|4=>4|183=>271|182=>270|131=>112|5=>5|218=>317|222=>320|228=>367|229=>368|n=>n,λ|n=>n⟩
theorem tU:Go.Proofs.Lays.n190 a0b qo:={
 mixed:=by kernel_rfl
 f125:=Tryz.func136.trans (congrArg some (by kernel_rfl))
 f128:=Tryz.func199.trans (congrArg some (by kernel_rfl))
 f129:=Tryz.func200.trans (congrArg some (by kernel_rfl))
 f190:=Tryz.func186.trans (congrArg some (by kernel_rfl))
 f258:=Tryz.func251.trans (congrArg some (by kernel_rfl))
 f302:=Tryz.func294.trans (congrArg some (by kernel_rfl))
 f303:=Tryz.func295.trans (congrArg some (by kernel_rfl))
 f304:=Tryz.func296.trans (congrArg some (by kernel_rfl))
 f305:=Tryz.func297.trans (congrArg some (by kernel_rfl))
 f306:=Tryz.func298.trans (congrArg some (by kernel_rfl))
 f307:=Tryz.func299.trans (congrArg some (by kernel_rfl))
 f308:=Tryz.func300.trans (congrArg some (by kernel_rfl))
 f309:=Tryz.func301.trans (congrArg some (by kernel_rfl))
 f310:=Tryz.func302.trans (congrArg some (by kernel_rfl))
 f329:=Tryz.func261.trans (congrArg some (by kernel_rfl))
 f330:=Tryz.func262.trans (congrArg some (by kernel_rfl))
 f333:=Tryz.func325.trans (congrArg some (by kernel_rfl))
 f334:=Tryz.func326.trans (congrArg some (by kernel_rfl))
 f335:=Tryz.func327.trans (congrArg some (by kernel_rfl))
 f336:=Tryz.func328.trans (congrArg some (by kernel_rfl))
 f344:=Tryz.func341.trans (congrArg some (by kernel_rfl))
 t0:=Tryz.underlying0
 a0:=Tryz.isAgg0
 z0:=Tryz.sizeOf0
 v0:=Tryz.zeroValue0
 t3:=Tryz.underlying3
 a3:=Tryz.isAgg3
 z3:=Tryz.sizeOf3
 v3:=Tryz.zeroValue3
 t4:=Tryz.underlying4
 a4:=Tryz.isAgg4
 z4:=Tryz.sizeOf4
 v4:=Tryz.zeroValue4
 t5:=Tryz.underlying5
 a5:=Tryz.isAgg5
 z5:=Tryz.sizeOf5
 v5:=Tryz.zeroValue5
 t9:=Tryz.underlying9
 a9:=Tryz.isAgg9
 z9:=Tryz.sizeOf9
 v9:=Tryz.zeroValue9
 t31:=Tryz.underlying81
 a31:=Tryz.isAgg81
 z31:=Tryz.sizeOf81
 v31:=Tryz.zeroValue81
 t46:=Tryz.underlying218
 a46:=Tryz.isAgg218
 z46:=Tryz.sizeOf218
 v46:=Tryz.zeroValue218
 t51:=Tryz.underlying277
 a51:=Tryz.isAgg277
 z51:=Tryz.sizeOf277
 v51:=Tryz.zeroValue277
 t53:=Tryz.underlying143
 a53:=Tryz.isAgg143
 z53:=Tryz.sizeOf143
 v53:=Tryz.zeroValue143
 t131:=Tryz.underlying112
 a131:=Tryz.isAgg112
 z131:=Tryz.sizeOf112
 v131:=Tryz.zeroValue112
 t182:=Tryz.underlying270
 a182:=Tryz.isAgg270
 z182:=Tryz.sizeOf270
 v182:=Tryz.zeroValue270
 t183:=Tryz.underlying271
 a183:=Tryz.isAgg271
 z183:=Tryz.sizeOf271
 v183:=Tryz.zeroValue271
 t218:=Tryz.underlying317
 a218:=Tryz.isAgg317
 z218:=Tryz.sizeOf317
 v218:=Tryz.zeroValue317
 t222:=Tryz.underlying320
 a222:=Tryz.isAgg320
 z222:=Tryz.sizeOf320
 v222:=Tryz.zeroValue320
 t228:=Tryz.underlying367
 a228:=Tryz.isAgg367
 z228:=Tryz.sizeOf367
 v228:=Tryz.zeroValue367
 t229:=Tryz.underlying368
 a229:=Tryz.isAgg368
 z229:=Tryz.sizeOf368
 v229:=Tryz.zeroValue368}
open Go.Sort Go.RowKit in
theorem slices_Sort_string (a c d:Nat) (b:List (List UInt8)) (w:a0e) (f:Holds encStr w a c b.toArray) (g:a<w.heap.size) (h:b.length<4611686018427387904):
 Calls a0b 186 #[.slice (some ⟨a,c,none⟩) b.length d] w λe w'=>
  e= .returned (.tuple #[])/\∃n i,w'=grow (putRow encStr (Sort.ahead w n) a c (b.mergeSort λx y=>decide (x<=y)).toArray) i:=Any.slices_Sort_string tU a c d b w f g h
def qm:Go.Shelf.Ren:=⟨λ|193=>189|n=>n,λ|31=>81|9=>9|4=>4|3=>3|0=>0|n=>n,λ|n=>n⟩
theorem oA:Go.Proofs.Lays.n193 a0b qm:={
 mixed:=by kernel_rfl
 f193:=Tryz.func189.trans (congrArg some (by kernel_rfl))
 t0:=Tryz.underlying0
 a0:=Tryz.isAgg0
 z0:=Tryz.sizeOf0
 v0:=Tryz.zeroValue0
 t3:=Tryz.underlying3
 a3:=Tryz.isAgg3
 z3:=Tryz.sizeOf3
 v3:=Tryz.zeroValue3
 t4:=Tryz.underlying4
 a4:=Tryz.isAgg4
 z4:=Tryz.sizeOf4
 v4:=Tryz.zeroValue4
 t9:=Tryz.underlying9
 a9:=Tryz.isAgg9
 z9:=Tryz.sizeOf9
 v9:=Tryz.zeroValue9
 t31:=Tryz.underlying81
 a31:=Tryz.isAgg81
 z31:=Tryz.sizeOf81
 v31:=Tryz.zeroValue81}
open Go.RowKit Go.Lib in
theorem slices_Equal_string (b g n c f h m d:Nat) (a ys:List ByteArray) (w:a0e) (p:n<=a.length) (r:m<=ys.length) (i:n<=9223372036854775807) (k:m<=9223372036854775807) (l:∀j,j<a.length->w.cell? ⟨b,g+j,none⟩=some (.string (a.getD j ByteArray.empty))) (o:∀j,j<ys.length->w.cell? ⟨f,h+j,none⟩=some (.string (ys.getD j ByteArray.empty))):
 Calls a0b 189 #[.slice (some ⟨b,g,none⟩) n c, .slice (some ⟨f,h,none⟩) m d] w λe w'=>e= .returned (.bool (decide (a.take n=ys.take m)))/\∃q,w'=w.drewN q:=Any.slices_Equal_string oA b g n c f h m d a ys w p r i k l o
open Go.RowKit Go.Lib in
theorem slices_Equal_string_empty (a b:Option Addr) (c m d:Nat) (w:a0e) (f:m<=9223372036854775807):
 Calls a0b 189 #[.slice a 0 c, .slice b m d] w λe w'=>e= .returned (.bool (decide (m=0)))/\w'=w:=Any.slices_Equal_string_empty oA a b c m d w f
open Go.RowKit Go.Sort in
theorem slices_Sort_string_none (p:Option Addr) (a:Nat) (w:a0e):
 Calls a0b 186 #[.slice p 0 a] w λe w'=>e= .returned (.tuple #[])/\w'=w:=Any.slices_Sort_string_none tU p a w
open Go.RowKit Go.Lib in
theorem slices_Equal_string_lens (a b:Option Addr) (n c m d:Nat) (w:a0e) (f:n≠m):
 Calls a0b 189 #[.slice a n c, .slice b m d] w λe w'=>e= .returned (.bool false)/\w'=w:=Any.slices_Equal_string_lens oA a b n c m d w f
end
end Go.Proofs.YtjcimanddakkaaaGreatDoor
