/- Lemmas. -/
import Derived.Test.YtjcimanddakkaaaGreatDoorY3
import Derived.Test.YtjcimanddakkaaaGreatDoorY10
import Derived.Maps.OwnIn
import Derived.Shelf.Small.Wraps
import Derived.Shelf.Strings.BuilderRune
import Derived.Shelf.Utf8.AppendRune
import Derived.Shelf.Utf8.AppendRunePlain
import Derived.Shelf.Utf8.RuneCount
import Derived.Shelf.Strings.Shaped
import Derived.Shelf.Sort.Plain
import Derived.Shelf.Strings.Split
import Derived.Shelf.Unicode.Latin
import Derived.Shelf.Unicode.Decode
import Derived.Shelf.Strings.RuneCount
import Derived.Shelf.Unicode.DecodeLast
import Derived.Shelf.Unicode.CaseLaid
import Derived.Shelf.Strings.BuilderCap
import Derived.Shelf.Slices.SearchI
import Derived.Shelf.Slices.Cells
import Derived.Shelf.Slices.In.SortNone
import Derived.Shelf.Slices.Empties2
set_option maxRecDepth 100000
set_option maxHeartbeats 8000000
namespace Go.Proofs.YtjcimanddakkaaaGreatDoor
open Go.Obj renaming cells→cm
open Go.Value renaming slice→cp,map→cs,pointer→cu,bool→cv
open _root_.Option renaming some→X,none→Y
open Go.Ending renaming returned→cq
open Go.Lib renaming hid→Z
open Tryz
open _root_.List renaming length_cons→cx,append_toArray→dc,size_toArray→ds,push_toArray→dx,cons_append→dy,nil_append→dz,length_nil→ej,length_append→e0
open _root_.Nat renaming le_refl→cy,lt_of_lt_of_le→dr,reduceSub→ex,reduceAdd→eQ
open Go renaming World→cz
open Go.Utf8 renaming decode→cP
open _root_.Array renaming replicate_zero→cQ,replicate_succ→da
open Go.World renaming iterPos→dd,ownsRow_nil→dk,cell?_alloc_new→es
open Go.Fence renaming wide→em
open Go.RowKit.Below renaming refl→er
open Go.Calls renaming mono→e1
section
open Go.RowKit Go.Maps
theorem wA (w:cz) (a:Array Value) (t:TypeId) (l:List Bs) (n b:Nat) (c:n=l.length) (h:a.toList=l.map λs=>S s):
 iH 0 (w.alloc (cm a t)).heap.size (w.alloc (cm a t)) (cp (X ⟨w.heap.size,0,Y⟩) n b) l:=by
 subst c;refine ⟨_,b,rfl,λ_=>⟨w.heap.size,0,rfl,Nat.zero_le _,by simp,λj x d=>?_⟩⟩;rw [Nat.zero_add, <- h] at *;exact (es w a t j).trans (by simpa using d)
theorem yD:∀p∈rowsS,(32:UInt8)∉p.1/\p.1.length+p.2.length<=1000:=by decide+kernel
theorem wN:(dF rowsS).length<=1000000:=by
 have h:((dF rowsS).map (·.1)).length<=1000000:=by rw [pL];decide+kernel
 rwa [List.length_map] at h
theorem qA (w:cz):Calls prog 248 #[] w λe w'=>∃b,e=cq (cs (X b))/\w.heap.size<=b/\ak ic w' b (dF rowsS)/\Bw w w':=by
 go_enter func248,ntmps248;go_wp2_with (go_at_call 292;((refine e1 (pn rowsS _ _ (wA w _ 9 (rowsS.map rowText) 31 31 (by kernel_rfl) (by kernel_rfl)) yD (by decide+kernel) uv wN) ?_);rintro e w1 ⟨rfl,c,a⟩))
 go_ret;exact ⟨w.heap.size+1,by simp,by omega,by simpa using c,((er _ w).alloc (cy _) _).trans (a.mono (by simp))⟩
end
section
open Go.RowKit Go.Maps Go.Shelf
attribute [local go_sem] Oper.semAt_some
theorem m9 (u:Nat) (p v:Value) (w:cz) (h:w.heap[u]? =X (cm #[p,v] 187 (0,0))):
 Calls prog 250 #[cu (X ⟨u,0,Y⟩)] w λe w'=>e=cq (.tuple #[])/\w'.heap[u]? =X (cm #[cu Y,cp Y 0 0] 187 (0,0))/\ar u w w':=by
 have a:w.cell? ⟨u,0,Y⟩=X p:=by rw [aa h];rfl
 have c1:w.cell? ⟨u,1,Y⟩=X v:=by rw [aa h];rfl
 have b:w.frozen? ⟨u,0,Y⟩=false:=ab h 0;have c:w.frozen? ⟨u,1,Y⟩=false:=ab h 1;have H:=Z h;clear h;go_enter func250,ntmps250;go_wp2_with fail
 go_end0
 exact ⟨rfl,(am (am H.o 0 _) 1 _).trans rfl,ar.setCell (ar.setCell (ar.refl u w) 0 _) 1 _⟩
def Mw (b u:Nat) (g:Option Nat) (k:Nat):Prop:=k=b∨k=u∨k=u+1∨X k=g
theorem tn (x:ByteArray) (h:x.size<=4):(pl x).length<=4:=by
 show x.data.toList.length<=4;rw [Array.length_toList];exact h
theorem zE (c:Nat):(enc c).length<=4:=tn _ (Go.encode_size_le (c:Int))
theorem nl (c:Nat):(bx c).length<=4:=by
 have a:=zE;unfold bx;split
 · exact a _
 · split
   · exact a _
   · split
     · simp
     · split
       · simp
       · split
         · rename_i s h;have:∀l:List (Bs×List Nat),(∀p∈l,p.1.length<=4)->∀s,rowIn c l=X s->s.length<=4:=by
            intro l;induction l with
            |nil=>intro _ s h;cases h
            |cons p l ih=>
             intro b s h;obtain ⟨t,m⟩:=p;unfold rowIn at h;split at h
             · injection h with h;rw [<- h];exact b _ List.mem_cons_self
             · exact ih (λq d=>b q (List.mem_cons_of_mem _ d)) s h
           exact this rowsK (by decide+kernel) s h
         · split
           · exact a _
           · split
             · exact a _
             · split
               · exact a _
               · simp
structure zW (J:(Nat->Prop)->List Bs->cz->Prop) (s:Bs) (b u:Nat) (wr:cz) (pos:Nat) (rest:List Nat) (pre:List Bs) (l:Bs) (g:Option Nat):Prop where
 it:wr.heap[u+1]? =some (.stringIter ⟨s.toArray⟩ pos)
 bld:Bld (u+2) u g l wr
 tab:ak ic wr b (dF rowsS)
 j:J (Mw b u g) pre wr
 all:pre++bg rest l=bd s
 run:fu ⟨s.toArray⟩ pos rest
 len:l.length<=4 * pos
 pos:pos<=s.length
def uj (a:(Nat->Prop)->List Bs->cz->Prop) (s:Bs) (b u:Nat) (wr:cz):Prop:=∃c e d l g,zW a s b u wr c e d l g
theorem tC {B b u:Nat} {g f:Option Nat} {c i:cz} (a:Fr u g c i) (n:f=g∨∃k,f=X k/\c.heap.size<=k) (m:∀k,f=X k->k<i.heap.size) (o:b<c.heap.size) (q:u+1<c.heap.size):cV B (Mw b u g) c (Mw b u f) i:=
 ⟨a.os,a.tape,a.output,a.size,λk d l _=>a.block k d (λe=>l (.inr (.inl e))) (λe=>l (.inr (.inr (.inr e)))),λk d=>by
  rcases d with h|h|h|h
  · exact .inl (.inl h)
  · exact .inl (.inr (.inl h))
  · exact .inl (.inr (.inr (.inl h)))
  · rcases n with e|⟨j,e,p⟩
    · exact .inl (.inr (.inr (.inr (by rw [h,e]))))
    · rw [e] at h;injection h with h;exact .inr (by omega),λk d=>by
  have:=a.size
  rcases d with rfl|rfl|rfl|h
  · omega
  · omega
  · omega
  · exact m k h.symm⟩
theorem xE {b u:Nat} {g:Option Nat} {a c:cz} (f:Fr u g a c) (h:∀k,g=X k->u+2<=k) (k:Nat) (i:k<a.heap.size) (d:k≠u) (j:k<u+2) (_:b=b):c.heap[k]? =a.heap[k]? :=
 f.block k i d λe=>by have:=h k e.symm;omega
theorem nV {g:Option Nat} {n:Nat} {a b:cz} (h:v6 g n a b) (k:Nat) (d:k<a.heap.size) (c:X k≠g):b.heap[k]? =a.heap[k]? :=(h.fr (k+1)).block k d (by omega) c
theorem mY {B b u:Nat} {g:Option Nat} {n:Nat} {a c:cz} (h:v6 g n a c) (e:∀k,g=X k->k<a.heap.size) (d:b<a.heap.size) (i:u+1<a.heap.size):cV B (Mw b u g) a (Mw b u g) c:=
 tC (h.fr u) (.inl rfl) (λk f=>dr (e k f) (h.fr u).size) d i
theorem nc {B b u:Nat} {g:Option Nat} {a d:cz} (h:ar u a d) (f:b<a.heap.size) (j:u+1<a.heap.size):cV B (Mw b u g) a (Mw b u Y) d:=
 ⟨h.os,h.tape,h.output,by rw [h.size];exact cy _,λk _ i _=>h.block k (λe=>i (.inr (.inl e))),λk c=>by
  rcases c with e|e|e|e
  · exact .inl (.inl e)
  · exact .inl (.inr (.inl e))
  · exact .inl (.inr (.inr (.inl e)))
  · exact absurd e (by simp),λk c=>by
  rw [h.size]
  rcases c with rfl|rfl|rfl|e
  · exact f
  · omega
  · exact j
  · exact absurd e (by simp)⟩
theorem jq (n:Nat) (hn:1<=n) (w:Nat) (s:Bs) (hs:s.length<=1000000) (w0:cz) (B:w0.cell? ⟨w,0,Y⟩=X (S s)):
 iI em n prog 247 #[cu (X ⟨w,0,Y⟩)] (λx:Bs=> #[S x]) (λxs=>xs=bd s) (λm=>m≠[]/\m<+:bd s) (λm x=>x≠[]/\m++[x]<+:bd s) (λ_=>False) w0:=by
 intro cl O Jx W hW hJ hY h0;have c0:W.cell? ⟨w,0,Y⟩=X (S s):=(hW.cell (p:=⟨w,0,Y⟩) (bm B)).trans B;have y:=Z hJ;have HY:=Z hY;have H0:=Z h0;clear hJ hY h0 hW B;refine callsIn_of_wp func247 rfl trivial ?_ rfl;simp only [ntmps247,ds,cx,ej,eQ,ex,da,cQ,dx,dc,dz,dy];gi_wp2_with (refine ⟨trivial,?_⟩;gi_at_call 248;refine (callsIn_wide.2 (qA _)).mono ?_;rintro e w1 ⟨b,rfl,bw,hm,a2⟩;have c4:w<w1.heap.size:=(dr (bm c0) a2.size);have c1:w1.cell? ⟨w,0,Y⟩=X (S s):=(a2.cell (p:=⟨w,0,Y⟩) (bm c0)).trans c0;obtain ⟨u,hu⟩:=Qe w1.heap.size;rw [hu] at c4)
 have c9:=a2.size;have cc:b<u:=by rw [<- hu];exact hm.lt
 have aC:=kG w1 u (u+2) hu.symm (by omega);have T:Bw W ((w1.alloc (cm #[cu Y,cp Y 0 0] 187)).alloc (.stringIter ⟨s.toArray⟩ 0)):=(a2.alloc c9 _).alloc (by simp;omega) _;have b5:uj O s b u ((w1.alloc (cm #[cu Y,cp Y 0 0] 187)).alloc (.stringIter ⟨s.toArray⟩ 0)):=by
  refine ⟨0,runesR s,[],[],Y,⟨?_,aC.alloc _,(hm.alloc _).alloc _,y.o _ _ _ _ _ H0.o ⟨T.os,T.tape,T.output,T.size,λk a _ _=>T.block k a,λk a=> .inr ?_,λk a=>?_⟩,rfl,fU s,by simp,Nat.zero_le _⟩⟩
  · have:=World.alloc_heap_new (w1.alloc (cm #[cu Y,cp Y 0 0] 187)) (.stringIter ⟨s.toArray⟩ 0);rwa [World.size_alloc,hu] at this
  · rcases a with rfl|rfl|rfl|h
    · exact bw
    · omega
    · omega
    · cases h
  · simp only [World.size_alloc,hu];rcases a with rfl|rfl|rfl|h
    · omega
    · omega
    · omega
    · cases h
 have bc:=Z b5;clear b5 aC hm;gi_loopw [] (λwr=>uj O s b u wr) (λwr=>s.length - wr.iterPos (u+1))
 case atStart=>exact bc.o
 case round=>
  obtain ⟨i,t,m,l,g,h⟩:=hrel;have I:=h.it;have au:wr.iterPos (u+1)=i:=by simp [dd,I]
  have cg:u+1<wr.heap.size:=(Array.getElem?_eq_some_iff.1 I).1;have H:=Z h;clear h;cases t with
  |nil=>
   have c3:¬i<(⟨s.toArray⟩:ByteArray).size:=by have:i=(⟨s.toArray⟩:ByteArray).size:=H.o.run;omega
   have b3:∀C,(Instr.next (cu (X ⟨u+1,0,Y⟩)) true C).run prog wr=_:=λC=>Lib.run_next_end_at wr (u+1) ⟨s.toArray⟩ i C I c3;have r:=Z H.bld;have D:=Z H.all;have F:=Z H.j;have v:b<wr.heap.size:=H.tab.lt;have bY:=H.len;have ce:=H.pos;by_cases hl0:l=[]
   · subst hl0
     gi_wp2_with (first
      |(refine ⟨trivial,?_⟩;gi_at_call 114;refine (callsIn_wide.2 (oJ (u+2) u g _ _ r.o)).mono ?_;rintro e o ⟨rfl,d⟩;have d:=d.symm;subst d))
     go_end0
     have h1:=D.o;simp only [bg,if_true,List.append_nil] at h1;exact ⟨⟨_,rfl⟩, .inl ⟨_,m,h1,F.o⟩⟩
   · have c2:(0:Int)<(l.length:Int):=by have:=List.length_pos_iff.2 hl0;omega
     have A:m++[l]=bd s:=by rw [<- D.o];simp [bg,hl0]
     have ao:l≠[]/\m++[l]<+:bd s:=⟨hl0,by rw [<- A];exact List.prefix_refl _⟩;have L:=Z A;clear A hl0
     gi_wp2_with (first
      |(refine ⟨trivial,?_⟩;gi_at_call 114;refine (callsIn_wide.2 (oJ (u+2) u g _ _ r.o)).mono ?_;rintro e o ⟨rfl,d⟩;have d:=d.symm;subst d)
      |(refine ⟨trivial,?_⟩;gi_at_call 115;refine (callsIn_wide.2 (eW (u+2) u g l _ r.o (by omega))).mono ?_;rintro e o ⟨rfl,K⟩;have V:O (Mw b u g) m o:=y.o _ _ _ _ _ F.o (mY K (λk a=>(r.o.row k a).2) v (by omega));obtain ⟨fn,cb,bs,bt,hy,Q⟩:=HY.o _ m l o V ao;have HR:=Z Q;clear Q V))
     refine HR.mono ?_;rintro e w3 (⟨rfl,a4,a0,_⟩|⟨rfl,al⟩)
     · gi_wp2
       go_end0
       exact ⟨⟨_,rfl⟩, .inl ⟨_,m++[l],L.o,a4⟩⟩
     · gi_wp2
       go_end0
       exact ⟨⟨_,rfl⟩, .inr ⟨_,m++[l],⟨by simp,by rw [<- L.o];exact List.prefix_refl _⟩,al⟩⟩
  |cons c t=>
   obtain ⟨hp,B,ch,b8,b4⟩:=H.run;have b3:∀C,(Instr.next (cu (X ⟨u+1,0,Y⟩)) true C).run prog wr=_:=λC=>Lib.run_next_any_at wr (u+1) ⟨s.toArray⟩ i C I hp;have b0:=Lib.iterAt_heap wr (u+1) ⟨s.toArray⟩ i (i+(cP ⟨s.toArray⟩ i).2) I;have a1:∀k,k≠u+1->(wr.iterAt (u+1) ⟨s.toArray⟩ (i+(cP ⟨s.toArray⟩ i).2)).heap[k]? =wr.heap[k]? :=λk a=>Lib.iterAt_other _ _ _ _ _ a;have R:=Lib.below_iterAt (er (u+1) wr) (k:=u+1) (cy _) ⟨s.toArray⟩ (i+(cP ⟨s.toArray⟩ i).2);have c5:=Lib.iterAt_size wr (u+1) ⟨s.toArray⟩ (i+(cP ⟨s.toArray⟩ i).2);rw [B] at b3;have bA:c<=1114111:=by rw [<- B,dT];exact Lib.decodeL_rune _
   generalize (wr.iterAt (u+1) ⟨s.toArray⟩ (i+(cP ⟨s.toArray⟩ i).2))=W1 at *;generalize (cP ⟨s.toArray⟩ i).2=z at *;have av:i+z<=s.length:=b8;have ac:Bld (u+2) u g l W1:=H.o.bld.keep (a1 _ (by omega)) (λk a=>a1 _ (by have:=(H.o.bld.row k a).1;omega));have a5:ak ic W1 b (dF rowsS):=H.o.tab.block (a1 _ (by omega));have b1:O (Mw b u g) m W1:=y _ _ _ _ _ H.j ⟨R.os,R.tape,R.output,R.size,λk a hn _=>a1 k (λe=>hn (.inr (.inr (.inl e)))),λk a=> .inl a,λk a=>by
    rcases a with rfl|rfl|rfl|a
    · have:=a5.lt;exact this
    · omega
    · omega
    · exact (ac.row k a.symm).2⟩
   have bY:=H.len;have bB:=nl c;have bv:u+2<=W1.heap.size:=by omega
   have r:=Z ac;have N:=Z a5;have F:=Z b1;have a9:=Z b4;have M:=Z b0;have HF:=Z (xF c b W1 bA a5);have D:=Z H.all;clear ac a5 b1 b4 I b0 a1 R c5 B hp b8;by_cases hf:bx c=[32]
   · have E:Hid (bg (c::t) l=if l=[] then bg t [] else l::bg t []):=by show bg _ _=_;rw [bg,if_pos hf]
     rw [hf] at HF;clear hf bB;have v:b<W1.heap.size:=N.lt;obtain ⟨_,p0,v0,b7,_⟩:=r.o;have ay:=Z b7;clear b7;by_cases hl0:l=[]
     · subst hl0;rw [if_pos rfl] at E
       gi_wp2_with (first
        |(refine ⟨trivial,?_⟩;gi_at_call 249;refine (callsIn_wide.2 HF.o).mono ?_;rintro e o ⟨rfl,d⟩;have d:=d.symm;subst d)
        |(refine ⟨trivial,?_⟩;gi_at_call 114;refine (callsIn_wide.2 (oJ (u+2) u g _ _ r.o)).mono ?_;rintro e o ⟨rfl,d⟩;have d:=d.symm;subst d))
       refine ⟨trivial,?_⟩;gi_wp2
       refine ⟨λ_ h=>(by cases h),?_⟩;gi_wp2_with (refine ⟨trivial,?_⟩;gi_at_call 250;refine (callsIn_wide.2 (m9 u p0 v0 _ ay.o)).mono ?_;rintro e o ⟨rfl,c6,a6⟩)
       go_roundw
       case rel=>
        exact ⟨i+z,t,m,[],Y,⟨(a6.block _ (by omega)).trans M.o,⟨by omega,cu Y,cp Y 0 0,c6, .inl rfl,dk _ _ _ _,rfl,λ_=>rfl⟩,N.o.block (a6.block _ (by omega)),
         y.o _ _ _ _ _ F.o (nc a6 v (by omega)),by rw [<- E.o];exact D.o,a9.o,by simp,av⟩⟩
       case measure=>
        have P:o.iterPos (u+1)=i+z:=by simp [dd,(a6.block (u+1) (by omega)).trans M.o]
        rw [P,au];omega
     · rw [if_neg hl0] at E;have c2:(0:Int)<(l.length:Int):=by have:=List.length_pos_iff.2 hl0;omega
       have bb:=Z hl0;clear hl0;have A:m++l::bg t []=bd s:=by rw [<- E.o];exact D.o
       have ao:l≠[]/\m++[l]<+:bd s:=⟨bb.o,by rw [<- A];exact ⟨bg t [],by simp⟩⟩;have L:=Z A;clear A
       gi_wp2_with (first
        |(refine ⟨trivial,?_⟩;gi_at_call 249;refine (callsIn_wide.2 HF.o).mono ?_;rintro e o ⟨rfl,d⟩;have d:=d.symm;subst d)
        |(refine ⟨trivial,?_⟩;gi_at_call 114;refine (callsIn_wide.2 (oJ (u+2) u g _ _ r.o)).mono ?_;rintro e o ⟨rfl,d⟩;have d:=d.symm;subst d)
        |(refine ⟨trivial,?_⟩;gi_at_call 115;refine (callsIn_wide.2 (eW (u+2) u g l _ r.o (by omega))).mono ?_;rintro e o ⟨rfl,K⟩;have V:O (Mw b u g) m o:=y.o _ _ _ _ _ F.o (mY K (λk a=>(r.o.row k a).2) v (by omega));obtain ⟨fn,cb,bs,bt,hy,Q⟩:=HY.o _ m l o V ao;have HR:=Z Q;clear Q V))
       refine HR.mono ?_;rintro e w3 (⟨rfl,a4,a0,_⟩|⟨rfl,al⟩)
       · have G:=λk a=>(r.row k a).1;have ad:∀q,q<u+2->X q≠g:=λq hq e=>by have:=G q e.symm;omega
         have b6:w3.heap[u]? =X (cm #[p0,v0] 187 (0,0)):=(a0 u (.inr (.inl rfl))).trans ((nV K u (by omega) (ad u (by omega))).trans ay.o);have aT:w3.heap[u+1]? =X (.stringIter ⟨s.toArray⟩ (i+z)):=(a0 (u+1) (.inr (.inr (.inl rfl)))).trans ((nV K (u+1) (by omega) (ad _ (by omega))).trans M.o);have b2:ak ic w3 b (dF rowsS):=N.o.block ((a0 b (.inl rfl)).trans (nV K b v (ad _ (by omega))));have bk:=Z b6;have a8:=Z aT;have ax:=Z b2;have b9:=Z a4;clear b6 aT b2 a4 a0
         gi_wp2_with (first
          |(refine ⟨trivial,?_⟩;gi_at_call 250;refine (callsIn_wide.2 (m9 u p0 v0 _ bk.o)).mono ?_;rintro e w4 ⟨rfl,c7,a7⟩))
         go_roundw
         case rel=>
          exact ⟨i+z,t,m++[l],[],Y,⟨(a7.block _ (by omega)).trans a8.o,⟨by omega,cu Y,cp Y 0 0,c7, .inl rfl,dk _ _ _ _,rfl,λ_=>rfl⟩,ax.o.block (a7.block _ (by omega)),
           y.o _ _ _ _ _ b9.o (nc a7 ax.o.lt (Array.getElem?_eq_some_iff.1 a8.o).1),by rw [List.append_assoc];exact L.o,a9.o,by simp,av⟩⟩
         case measure=>
          have P:w4.iterPos (u+1)=i+z:=by simp [dd,(a7.block (u+1) (by omega)).trans a8.o]
          rw [P,au];omega
       · gi_wp2
         refine bodyPost_ret (results_none rfl _ _ _) rfl ?_;exact ⟨⟨_,rfl⟩, .inr ⟨_,m++[l],⟨by simp,⟨bg t [],by rw [List.append_assoc];exact L.o⟩⟩,al⟩⟩
   · have E:Hid (bg (c::t) l=bg t (l++bx c)):=by show bg _ _=_;rw [bg,if_neg hf]
     generalize bx c=f at *;have cd:(f==[32])=false:=by simpa using hf
     clear hf
     gi_wp2_with (first
      |(refine ⟨trivial,?_⟩;gi_at_call 249;refine (callsIn_wide.2 HF.o).mono ?_;rintro e o ⟨rfl,d⟩;have d:=d.symm;subst d)
      |(refine ⟨trivial,?_⟩;gi_at_call 112;refine (callsIn_wide.2 (gh (u+2) u g l f _ r.o bv (by omega))).mono ?_;rintro e o ⟨rfl,g2,aS,bO,a3⟩))
     go_roundw
     case rel=>
      have G:=λk a=>(r.row k a).1;have v:b<W1.heap.size:=N.lt
      exact ⟨i+z,t,m,l++f,g2,⟨(xE a3 G (u+1) (by omega) (by omega) (by omega) (rfl:b=b)).trans M.o,aS,N.o.block (xE a3 G b v (by omega) (by omega) (rfl:b=b)),
       y.o _ _ _ _ _ F.o (tC a3 bO (λk a=>(aS.row k a).2) v (by omega)),by rw [<- E.o];exact D.o,a9.o,by rw [e0];omega,av⟩⟩
     case measure=>
      have G:=λk a=>(r.row k a).1;have P:o.iterPos (u+1)=i+z:=by simp [dd,(xE a3 G (u+1) (by omega) (by omega) (by omega) (rfl:b=b)).trans M.o]
      rw [P,au];omega
attribute [local go_sem] Oper.semAt_some
theorem i9:(prog.info? 9).map (λi=>(i.zero,i.size,i.bytes))=X (X (.string ⟨#[]⟩),1,16):=by kernel_rfl
structure fZ (w:cz) (Bo:Nat) (M:Nat->Prop) (pre:List Bs) (W:cz):Prop where
 o:∃v,Boxed W Bo 81 v/\W.ownsRow w.heap.size 9 1 v pre.length (pre.map λs=>S s)/\∀g,v.ownBlock=some g->¬M g
 b:Bw w W
 lt:∀k,M k->k<W.heap.size/\w.heap.size<=k
 box:¬M Bo
theorem fZ.stable (w:cz) (m B:Nat) (E:w.heap.size<=B):gK B (fZ w m):=by
 intro M s n C A h c;obtain ⟨v,l,q,z⟩:=h.o;have y:∀k,k<n.heap.size->¬M k->(∃r t,n.heap[k]? =X (cm r t (0,0)))->A.heap[k]? =n.heap[k]? :=λk a u p=>by obtain ⟨r,t,p⟩:=p;exact c.block k a u λ_ o j=>by rw [p] at j;injection j with j;subst j;rfl
 refine ⟨⟨v,(y m (ae l) h.box ⟨_,_,l⟩).trans l,ah q (λg e=>?_),λg e f=>?_⟩,?_,λk i=>⟨c.lt k i,?_⟩,λf=>?_⟩
 · obtain ⟨D,x⟩:=aD q e;exact y g (ae x) (z g e) ⟨_,_,x⟩
 · have:=kZ q g e;rcases c.new g f with a|a
   · exact z g e a
   · omega
 · have d:=h.b;exact ⟨c.os.trans d.os,c.tape.trans d.tape,c.output.trans d.output,Nat.le_trans d.size c.size,λk i=>(c.block k (by have:=d.size;omega) (λf=>by have:=(h.lt k f).2;omega) (λu=>by omega)).trans (d.block k i)⟩
 · rcases c.new k i with a|a
   · exact (h.lt k a).2
   · have:=h.b.size;omega
 · rcases c.new m f with a|a
   · exact h.box a
   · have:=ae l;omega
theorem mJ (n:Nat) (hn:3<=n) (g:Nat) (lb:Array Value) (eg:∀args w,(callFunc g args).run prog w= .ok (.enter g args) w) (C V:List Bs->Prop) (G:List Bs->Bs->Prop) (hG:∀p x,G p x->p.length<100000000) (w:cz)
 (a4:iI em (n - 1) prog g lb (λx:Bs=> #[S x]) C V G (λ_=>False) w):
 CallsIn em n prog 290 #[cp Y 0 0, .func (.func g) #[] lb] w λe w'=>∃(v:Value) (r:List Bs),e=cq v/\C r/\w'.ownsRow w.heap.size 9 1 v r.length (r.map λs=>S s)/\Bw w w':=by
 have y:1<=n:=by omega
 refine callsIn_of_wp_marks func290 rfl trivial ?_ rfl;simp only [ntmps290,ds,cx,ej,eQ,ex,da,cQ,dx,dc,dz,dy];gi_wp2
 have bO:=Boxed.new w 81 (cp Y 0 0);have z:Bw w (w.alloc (cm #[cp Y 0 0] 81)):=(er _ w).alloc (cy _) _
 refine kK rfl y (gf:=g) (lb:=lb) rfl trivial eg a4 (λk a=>a.elim) z (λ_=>rfl) (fZ w w.heap.size) (λ_ _ _ _=>False) (fZ.stable w _ _ z.size) (λ_ _ _ _ _ _ h _=>h) (λM s a9 h k a=>(h.lt k a).1) (λ_ _ _ _ h=>h.elim)
  ⟨⟨_,bO,dk _ _ _ _,λg hg=>by cases hg⟩,z,λk a=>a.elim,λh=>h⟩
  (λx=>{tmps:= #[cp Y 0 0, .func (.func g) #[] lb,cu (X ⟨w.heap.size,0,Y⟩),undef,cp Y 0 0,S x, .func (.func g) #[] lb,S x,undef,undef,undef,undef,undef],defers:=[]}) ?assign ?body ?done ?stop
 case assign=>
  intro l x W K f;gi_wp2
  exact f
 case body=>
  rintro l M p x W h I;have I:=hG _ _ I;obtain ⟨v,m,j,O⟩:=h.o;have hc:=m.cell;obtain ⟨i0,hi,a6,a7,a8⟩:=info_parts i9;have d:=Z h.b;have t:=Z j;have T:=Z m;have B:=Z O;have A:=Z h;clear h j m O;gi_wp2_with (gi_at_builtin;refine wpListIn_append_own_at _ rfl _ _ 81 rfl w.heap.size 9 i0 (.string ⟨#[]⟩) 1 16 underlying81 hi a6 a7 a8 rfl (by decide) _ _ _ rfl (t.o.alloc _) ⟨W.heap.size,0,Y⟩ 1 1 [S x] rfl rfl (cell_one_new _ _ _) (by simp [Value.oneCell']) (by unfold maxLen;omega) (by omega) (by have:=d.o.size;simp;omega) ?_;intro v' w1 P H _ L;obtain ⟨g',a0,rfl⟩:=ownsRow_succ P;obtain ⟨Q,a5,a3,a1,E⟩:=T.o.appended (by decide) t.o d.o.size (cy _) P H;have ac:=Q.cell;have ad:=Q.frozen;have R:=Z L;clear L)
  have al:=d.size;have u:=A.lt;have F:=A.box;have a2:∀k,M k->(w1.setCell ⟨w.heap.size,0,Y⟩ (cp (X ⟨g',0,Y⟩) (p.length+1) a0)).heap[k]? =W.heap[k]? :=λk a=>by have y:=(u k a).1;rw [Below.heap_setCell _ _ _ _ (λ(e:k=w.heap.size)=>F (e ▸ a)),H.block k (by simp;omega) (λe=>B.o k e.symm a),Below.heap_alloc _ _ _ y]
  refine ⟨a1,a2,⟨⟨_,a5,?_,λq i N=>?_⟩,d.trans E,λk a=>⟨?_,(u k a).2⟩,F⟩⟩
  · rw [e0,List.map_append];exact a3
  · rcases R.o with e|e
    · exact B q (e ▸ i) N
    · rw [e] at i;injection i with i
      have:=(u q N).1;simp at i;omega
  · exact dr (u k a).1 E.size
 case done=>
  rintro D M r W hD hS h f;obtain ⟨v,m,j,_⟩:=h.o;have hc:=m.cell;have t:=Z j;have d:=Z h.b;clear h j;gi_wp2
  refine ⟨by simp, .inl ⟨_,_,rfl,run_takeDeferred f,?_⟩⟩;exact ⟨_,results_tmp rfl _ _ _,v,r,rfl,hS,ownsRow_putObj t.o _ f rfl,d.o.trans (belowK_b (w:=w) (cy _) W D _ _ (by simp at hD;omega) f rfl rfl)⟩
 case stop=> rintro D c M p W _ _ h _;exact h.elim
theorem rh (n:Nat) (o:4<=n) (g:Nat) (lb:Array Value) (f:∀args w,(callFunc g args).run prog w= .ok (.enter g args) w) (b c:List Bs->Prop) (G:List Bs->Bs->Prop) (h:∀d x,G d x->d.length<100000000) (w:cz)
 (l:iI em (n - 1 - 1) prog g lb (λx:Bs=> #[S x]) b c G (λ_=>False) w):
 Calls prog 243 #[.func (.func g) #[] lb] w λe w'=>∃(v:Value) (a:List Bs),e=cq v/\b a/\w'.ownsRow w.heap.size 9 1 v a.length (a.map λs=>S s)/\Bw w w':=by
 have m:1<=n:=by omega
 refine (callsIn_wide (n:=n)).1 ?_;refine callsIn_of_wp func243 rfl trivial ?_ rfl;simp only [ntmps243,ds,cx,ej,eQ,ex,da,cQ,dx,dc,dz,dy];gi_wp2_with (refine ⟨trivial,?_⟩;gi_at_call 290;refine (mJ (n - 1) (by omega) g lb f b c G h _ l).mono ?_;rintro e w' ⟨v,a,rfl,i,k,j⟩)
 go_ret;exact ⟨v,a,rfl,i,k,j⟩
theorem jp (s:Bs) (w:cz):Calls prog 185 #[S s] w λe w'=>e=cq (.func (.func 247) #[] #[cu (X ⟨w.heap.size,0,Y⟩)])/\w'=w.alloc (cm #[S s] 9):=by
 go_enter func185,ntmps185;go_wp2_with fail
 go_ret;exact ⟨rfl,rfl⟩
theorem pA (a:List Nat) (l:Bs):(bg a l).length<=a.length+1:=by
 induction a generalizing l with
 |nil=>unfold bg;split<;>simp
 |cons c a ih=>
  unfold bg;split
  · split
    · have:=ih [];simp only [cx];omega
    · have:=ih [];simp only [cx];omega
  · have:=ih (l++bx c);simp only [cx];omega
theorem ez (s:Bs):(bd s).length<=s.length+1:=by
 have a:=pA (runesR s) [];have b:=kY s;unfold bd;omega
theorem uo (s:Bs) (g:s.length<=1000000) (w:cz):Calls prog 182 #[S s] w λe w'=>∃v,e=cq v/\w'.ownsRow w.heap.size 9 1 v (bd s).length ((bd s).map λs=>S s)/\Bw w w':=by
 have i:=ez s;have a:=jq 5 (by omega) w.heap.size s g (w.alloc (cm #[S s] 9)) (by rw [es];rfl);have b:=Z (rh 7 (by omega) 247 #[cu (X ⟨w.heap.size,0,Y⟩)] (enters_of func247 (by kernel_rfl) rfl) _ _ _ (λj x h=>by have:=h.2.length_le;simp at this;omega) _ a);clear a;go_enter func182,ntmps182
 go_wp2_with (first
  |(go_at_call 185;((with_reducible refine e1 (jp s _) ?_);rintro e w1 ⟨rfl,rfl⟩))
  |(go_at_call 243;((with_reducible refine e1 b.o ?_);rintro e w1 ⟨v,k,rfl,c,f,d⟩)))
 go_ret;obtain rfl:=c;exact ⟨v,rfl,bu f (by simp),((er _ w).alloc (cy _) _).trans (d.mono (by simp))⟩
end
section
open Go.Shelf
def qE:Go.Shelf.Ren:=⟨λ|190=>186|125=>136|258=>251|128=>199|129=>200|302=>294|303=>295|304=>296|305=>297|306=>298|307=>299|308=>300|309=>301|310=>302|333=>325|329=>261|330=>262|334=>326|335=>327|336=>328|344=>341|n=>n,λ|31=>81|9=>9|3=>3|46=>218|0=>0|51=>277|53=>143|4=>4|183=>271|182=>270|131=>112|5=>5|218=>317|222=>320|228=>367|229=>368|n=>n,λ|n=>n⟩
theorem tY:Go.Proofs.Lays.n190 prog qE:={
 mixed:=by kernel_rfl
 f125:=Qf func136
 f128:=Qf func199
 f129:=Qf func200
 f190:=Qf func186
 f258:=Qf func251
 f302:=Qf func294
 f303:=Qf func295
 f304:=Qf func296
 f305:=Qf func297
 f306:=Qf func298
 f307:=Qf func299
 f308:=Qf func300
 f309:=Qf func301
 f310:=Qf func302
 f329:=Qf func261
 f330:=Qf func262
 f333:=Qf func325
 f334:=Qf func326
 f335:=Qf func327
 f336:=Qf func328
 f344:=Qf func341
 t0:=underlying0
 a0:=Tryz.isAgg0
 z0:=sizeOf0
 v0:=zeroValue0
 t3:=underlying3
 a3:=Tryz.isAgg3
 z3:=sizeOf3
 v3:=zeroValue3
 t4:=underlying4
 a4:=Tryz.isAgg4
 z4:=sizeOf4
 v4:=zeroValue4
 t5:=underlying5
 a5:=Tryz.isAgg5
 z5:=sizeOf5
 v5:=zeroValue5
 t9:=underlying9
 a9:=Tryz.isAgg9
 z9:=sizeOf9
 v9:=zeroValue9
 t31:=underlying81
 a31:=Tryz.isAgg81
 z31:=sizeOf81
 v31:=zeroValue81
 t46:=underlying218
 a46:=Tryz.isAgg218
 z46:=sizeOf218
 v46:=zeroValue218
 t51:=underlying277
 a51:=Tryz.isAgg277
 z51:=sizeOf277
 v51:=zeroValue277
 t53:=underlying143
 a53:=Tryz.isAgg143
 z53:=sizeOf143
 v53:=zeroValue143
 t131:=underlying112
 a131:=Tryz.isAgg112
 z131:=sizeOf112
 v131:=zeroValue112
 t182:=underlying270
 a182:=Tryz.isAgg270
 z182:=sizeOf270
 v182:=zeroValue270
 t183:=underlying271
 a183:=Tryz.isAgg271
 z183:=sizeOf271
 v183:=zeroValue271
 t218:=underlying317
 a218:=Tryz.isAgg317
 z218:=sizeOf317
 v218:=zeroValue317
 t222:=underlying320
 a222:=Tryz.isAgg320
 z222:=sizeOf320
 v222:=zeroValue320
 t228:=underlying367
 a228:=Tryz.isAgg367
 z228:=sizeOf367
 v228:=zeroValue367
 t229:=underlying368
 a229:=Tryz.isAgg368
 z229:=sizeOf368
 v229:=zeroValue368}
open Go.Sort Go.RowKit in
theorem slices_Sort_string (a c d:Nat) (b:List (List UInt8)) (w:cz) (f:Holds encStr w a c b.toArray) (g:a<w.heap.size) (h:b.length<4611686018427387904):
 Calls prog 186 #[cp (X ⟨a,c,Y⟩) b.length d] w λe w'=>
  e=cq (.tuple #[])/\∃n i,w'=grow (putRow encStr (Sort.ahead w n) a c (b.mergeSort λx y=>decide (x<=y)).toArray) i:=Any.slices_Sort_string tY a c d b w f g h
def qD:Go.Shelf.Ren:=⟨λ|193=>189|n=>n,λ|31=>81|9=>9|4=>4|3=>3|0=>0|n=>n,λ|n=>n⟩
theorem oK:Go.Proofs.Lays.n193 prog qD:={
 mixed:=by kernel_rfl
 f193:=Qf func189
 t0:=underlying0
 a0:=Tryz.isAgg0
 z0:=sizeOf0
 v0:=zeroValue0
 t3:=underlying3
 a3:=Tryz.isAgg3
 z3:=sizeOf3
 v3:=zeroValue3
 t4:=underlying4
 a4:=Tryz.isAgg4
 z4:=sizeOf4
 v4:=zeroValue4
 t9:=underlying9
 a9:=Tryz.isAgg9
 z9:=sizeOf9
 v9:=zeroValue9
 t31:=underlying81
 a31:=Tryz.isAgg81
 z31:=sizeOf81
 v31:=zeroValue81}
open Go.RowKit Go.Lib in
theorem slices_Equal_string (b g n c f h m d:Nat) (a ys:List ByteArray) (w:cz) (p:n<=a.length) (r:m<=ys.length) (i:n<=9223372036854775807) (k:m<=9223372036854775807) (l:∀j,j<a.length->w.cell? ⟨b,g+j,Y⟩=X (.string (a.getD j ByteArray.empty))) (o:∀j,j<ys.length->w.cell? ⟨f,h+j,Y⟩=X (.string (ys.getD j ByteArray.empty))):
 Calls prog 189 #[cp (X ⟨b,g,Y⟩) n c,cp (X ⟨f,h,Y⟩) m d] w λe w'=>e=cq (cv (decide (a.take n=ys.take m)))/\∃q,w'=w.drewN q:=Any.slices_Equal_string oK b g n c f h m d a ys w p r i k l o
open Go.RowKit Go.Lib in
theorem slices_Equal_string_empty (a b:Option Addr) (c m d:Nat) (w:cz) (f:m<=9223372036854775807):
 Calls prog 189 #[cp a 0 c,cp b m d] w λe w'=>e=cq (cv (decide (m=0)))/\w'=w:=Any.slices_Equal_string_empty oK a b c m d w f
open Go.RowKit Go.Sort in
theorem slices_Sort_string_none (p:Option Addr) (a:Nat) (w:cz):
 Calls prog 186 #[cp p 0 a] w λe w'=>e=cq (.tuple #[])/\w'=w:=Any.slices_Sort_string_none tY p a w
open Go.RowKit Go.Lib in
theorem slices_Equal_string_lens (a b:Option Addr) (n c m d:Nat) (w:cz) (f:n≠m):
 Calls prog 189 #[cp a n c,cp b m d] w λe w'=>e=cq (cv false)/\w'=w:=Any.slices_Equal_string_lens oK a b n c m d w f
end
end Go.Proofs.YtjcimanddakkaaaGreatDoor
