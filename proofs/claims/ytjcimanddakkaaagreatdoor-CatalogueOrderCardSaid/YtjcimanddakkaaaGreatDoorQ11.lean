/- Lemmas. -/
import Derived.Test.YtjcimanddakkaaaGreatDoorQ3
import Derived.Test.YtjcimanddakkaaaGreatDoorQ10
import Derived.Maps.OwnIn
import Derived.Shelf.Small.Wraps
import Derived.Shelf.Strings.BuilderRune
import Derived.Shelf.Utf8.AppendRune
import Derived.Shelf.Utf8.AppendRunePlain
import Derived.Shelf.Utf8.RuneCount
import Derived.Shelf.Strings.Shaped
import Derived.Shelf.Sort.Plain
import Derived.Shelf.Strings.Split
import Derived.Shelf.Unicode.Latin
import Derived.Shelf.Unicode.Decode
import Derived.Shelf.Strings.RuneCount
import Derived.Shelf.Unicode.DecodeLast
import Derived.Shelf.Unicode.CaseLaid
import Derived.Shelf.Strings.BuilderCap
import Derived.Shelf.Slices.SearchI
import Derived.Shelf.Slices.Cells
import Derived.Shelf.Slices.In.SortNone
import Derived.Shelf.Slices.Empties2
set_option maxRecDepth 100000
set_option maxHeartbeats 8000000
namespace Go.Proofs.YtjcimanddakkaaaGreatDoor
open Go.Obj renaming cells→ch
open Go.Value renaming slice→cl,map→cp,pointer→cq,bool→cu
open _root_.Option renaming some→X,none→Y
open Go.Ending renaming returned→cm
open Go.Lib renaming hid→Z
open Tryz
open _root_.List renaming length_cons→cv,append_toArray→da,size_toArray→dk,push_toArray→dn,cons_append→dp,nil_append→ds,length_nil→dx,length_append→er
open _root_.Nat renaming le_refl→cx,lt_of_lt_of_le→di,reduceSub→ej,reduceAdd→em
open Go renaming World→cy
open Go.Utf8 renaming decode→cz
open _root_.Array renaming replicate_zero→cP,replicate_succ→cQ
open Go.World renaming iterPos→dc,ownsRow_nil→dd,cell?_alloc_new→ee
open Go.Fence renaming wide→dy
open Go.RowKit.Below renaming refl→dz
open Go.Calls renaming mono→es
section
open Go.RowKit Go.Maps
theorem yr (w:cy) (cs:Array Value) (t:TypeId) (l:List Bs) (n a:Nat) (b:n=l.length) (h:cs.toList=l.map λs=>S s):
 jp 0 (w.alloc (ch cs t)).heap.size (w.alloc (ch cs t)) (cl (X ⟨w.heap.size,0,Y⟩) n a) l:=by
 subst b;refine ⟨_,a,rfl,λ_=>⟨w.heap.size,0,rfl,Nat.zero_le _,by simp,λj x c=>?_⟩⟩;rw [Nat.zero_add, <- h] at *;exact (ee w cs t j).trans (by simpa using c)
theorem AB:∀p∈rowsS,(32:UInt8)∉p.1/\p.1.length+p.2.length<=1000:=by decide+kernel
theorem yE:(dL rowsS).length<=1000000:=by
 have h:((dL rowsS).map (·.1)).length<=1000000:=by rw [rb];decide+kernel
 rwa [List.length_map] at h
theorem rV (w:cy):Calls prog 248 #[] w λe w'=>∃b,e=cm (cp (X b))/\w.heap.size<=b/\ak iH w' b (dL rowsS)/\Bw w w':=by
 go_enter func248,ntmps248;go_wp2_with (go_at_call 292;((refine es (qH rowsS _ _ (yr w _ 9 (rowsS.map rowText) 31 31 (by kernel_rfl) (by kernel_rfl)) AB (by decide+kernel) wh yE) ?_);rintro e w1 ⟨rfl,c,a⟩))
 go_ret;exact ⟨w.heap.size+1,by simp,by omega,by simpa using c,((dz _ w).alloc (cx _) _).trans (a.mono (by simp))⟩
end
section
open Go.RowKit Go.Maps Go.Shelf
attribute [local go_sem] Oper.semAt_some
theorem nS (u:Nat) (p v:Value) (w:cy) (h:w.heap[u]? =X (ch #[p,v] 187 (0,0))):
 Calls prog 250 #[cq (X ⟨u,0,Y⟩)] w λe w'=>e=cm (.tuple #[])/\w'.heap[u]? =X (ch #[cq Y,cl Y 0 0] 187 (0,0))/\aw u w w':=by
 have a:w.cell? ⟨u,0,Y⟩=X p:=by rw [aa h];rfl
 have c1:w.cell? ⟨u,1,Y⟩=X v:=by rw [aa h];rfl
 have b:w.frozen? ⟨u,0,Y⟩=false:=ab h 0;have c:w.frozen? ⟨u,1,Y⟩=false:=ab h 1;have H:=Z h;clear h;go_enter func250,ntmps250;go_wp2_with fail
 go_end0
 exact ⟨rfl,(ap (ap H.o 0 _) 1 _).trans rfl,aw.setCell (aw.setCell (aw.refl u w) 0 _) 1 _⟩
def Mw (b u:Nat) (g:Option Nat) (k:Nat):Prop:=k=b∨k=u∨k=u+1∨X k=g
theorem uR (x:ByteArray) (h:x.size<=4):(qF x).length<=4:=by
 show x.data.toList.length<=4;rw [Array.length_toList];exact h
theorem Bp (c:Nat):(enc c).length<=4:=uR _ (Go.encode_size_le (c:Int))
theorem oq (c:Nat):(bC c).length<=4:=by
 have a:=Bp;unfold bC;split
 · exact a _
 · split
   · exact a _
   · split
     · simp
     · split
       · simp
       · split
         · rename_i s h;have:∀l:List (Bs×List Nat),(∀p∈l,p.1.length<=4)->∀s,rowIn c l=X s->s.length<=4:=by
            intro l;induction l with
            |nil=>intro _ s h;cases h
            |cons p l ih=>
             intro b s h;obtain ⟨t,m⟩:=p;unfold rowIn at h;split at h
             · injection h with h;rw [<- h];exact b _ List.mem_cons_self
             · exact ih (λq d=>b q (List.mem_cons_of_mem _ d)) s h
           exact this rowsK (by decide+kernel) s h
         · split
           · exact a _
           · split
             · exact a _
             · split
               · exact a _
               · simp
structure BL (J:(Nat->Prop)->List Bs->cy->Prop) (s:Bs) (b u:Nat) (wr:cy) (pos:Nat) (rest:List Nat) (pre:List Bs) (l:Bs) (g:Option Nat):Prop where
 it:wr.heap[u+1]? =some (.stringIter ⟨s.toArray⟩ pos)
 bld:Bld (u+2) u g l wr
 tab:ak iH wr b (dL rowsS)
 j:J (Mw b u g) pre wr
 all:pre++bg rest l=be s
 run:fR ⟨s.toArray⟩ pos rest
 len:l.length<=4 * pos
 pos:pos<=s.length
def vV (a:(Nat->Prop)->List Bs->cy->Prop) (s:Bs) (b u:Nat) (wr:cy):Prop:=∃c e d l g,BL a s b u wr c e d l g
theorem ve {B b u:Nat} {g f:Option Nat} {c i:cy} (a:Fr u g c i) (n:f=g∨∃k,f=X k/\c.heap.size<=k) (m:∀k,f=X k->k<i.heap.size) (o:b<c.heap.size) (q:u+1<c.heap.size):cS B (Mw b u g) c (Mw b u f) i:=
 ⟨a.os,a.tape,a.output,a.size,λk d l _=>a.block k d (λe=>l (.inr (.inl e))) (λe=>l (.inr (.inr (.inr e)))),λk d=>by
  rcases d with h|h|h|h
  · exact .inl (.inl h)
  · exact .inl (.inr (.inl h))
  · exact .inl (.inr (.inr (.inl h)))
  · rcases n with e|⟨j,e,p⟩
    · exact .inl (.inr (.inr (.inr (by rw [h,e]))))
    · rw [e] at h;injection h with h;exact .inr (by omega),λk d=>by
  have:=a.size
  rcases d with rfl|rfl|rfl|h
  · omega
  · omega
  · omega
  · exact m k h.symm⟩
theorem zq {b u:Nat} {g:Option Nat} {a c:cy} (d:Fr u g a c) (f:∀k,g=X k->u+2<=k) (k:Nat) (h:k<a.heap.size) (h1:k≠u) (i:k<u+2) (_:b=b):c.heap[k]? =a.heap[k]? :=
 d.block k h h1 λe=>by have:=f k e.symm;omega
theorem o9 {g:Option Nat} {n:Nat} {a b:cy} (h:xZ g n a b) (k:Nat) (d:k<a.heap.size) (c:X k≠g):b.heap[k]? =a.heap[k]? :=(h.fr (k+1)).block k d (by omega) c
theorem nM {B b u:Nat} {g:Option Nat} {n:Nat} {a c:cy} (h:xZ g n a c) (e:∀k,g=X k->k<a.heap.size) (d:b<a.heap.size) (i:u+1<a.heap.size):cS B (Mw b u g) a (Mw b u g) c:=
 ve (h.fr u) (.inl rfl) (λk f=>di (e k f) (h.fr u).size) d i
theorem nU {B b u:Nat} {g:Option Nat} {a d:cy} (h:aw u a d) (f:b<a.heap.size) (j:u+1<a.heap.size):cS B (Mw b u g) a (Mw b u Y) d:=
 ⟨h.os,h.tape,h.output,by rw [h.size];exact cx _,λk _ i _=>h.block k (λe=>i (.inr (.inl e))),λk c=>by
  rcases c with e|e|e|e
  · exact .inl (.inl e)
  · exact .inl (.inr (.inl e))
  · exact .inl (.inr (.inr (.inl e)))
  · exact absurd e (by simp),λk c=>by
  rw [h.size]
  rcases c with rfl|rfl|rfl|e
  · exact f
  · omega
  · exact j
  · exact absurd e (by simp)⟩
theorem jR (n:Nat) (hn:1<=n) (w:Nat) (s:Bs) (hs:s.length<=1000000) (w0:cy) (B:w0.cell? ⟨w,0,Y⟩=X (S s)):
 iE dy n prog 247 #[cq (X ⟨w,0,Y⟩)] (λx:Bs=> #[S x]) (λxs=>xs=be s) (λm=>m≠[]/\m<+:be s) (λm x=>x≠[]/\m++[x]<+:be s) (λ_=>False) w0:=by
 intro cg O Jx W hW hJ hY h0;have c0:W.cell? ⟨w,0,Y⟩=X (S s):=(hW.cell (p:=⟨w,0,Y⟩) (bi B)).trans B;have y:=Z hJ;have HY:=Z hY;have H0:=Z h0;clear hJ hY h0 hW B;refine callsIn_of_wp func247 rfl trivial ?_ rfl;simp only [ntmps247,dk,cv,dx,em,ej,cQ,cP,dn,da,ds,dp];gi_wp2_with (refine ⟨trivial,?_⟩;gi_at_call 248;refine (callsIn_wide.2 (rV _)).mono ?_;rintro e w1 ⟨b,rfl,bw,hm,a2⟩;have c2:w<w1.heap.size:=(di (bi c0) a2.size);have c1:w1.cell? ⟨w,0,Y⟩=X (S s):=(a2.cell (p:=⟨w,0,Y⟩) (bi c0)).trans c0;obtain ⟨u,hu⟩:=Qe w1.heap.size;rw [hu] at c2)
 have c6:=a2.size;have c9:b<u:=by rw [<- hu];exact hm.lt
 have aC:=iB w1 u (u+2) hu.symm (by omega);have T:Bw W ((w1.alloc (ch #[cq Y,cl Y 0 0] 187)).alloc (.stringIter ⟨s.toArray⟩ 0)):=(a2.alloc c6 _).alloc (by simp;omega) _;have b5:vV O s b u ((w1.alloc (ch #[cq Y,cl Y 0 0] 187)).alloc (.stringIter ⟨s.toArray⟩ 0)):=by
  refine ⟨0,runesR s,[],[],Y,⟨?_,aC.alloc _,(hm.alloc _).alloc _,y.o _ _ _ _ _ H0.o ⟨T.os,T.tape,T.output,T.size,λk a _ _=>T.block k a,λk a=> .inr ?_,λk a=>?_⟩,rfl,gB s,by simp,Nat.zero_le _⟩⟩
  · have:=World.alloc_heap_new (w1.alloc (ch #[cq Y,cl Y 0 0] 187)) (.stringIter ⟨s.toArray⟩ 0);rwa [World.size_alloc,hu] at this
  · rcases a with rfl|rfl|rfl|h
    · exact bw
    · omega
    · omega
    · cases h
  · simp only [World.size_alloc,hu];rcases a with rfl|rfl|rfl|h
    · omega
    · omega
    · omega
    · cases h
 have bc:=Z b5;clear b5 aC hm;gi_loopw [] (λwr=>vV O s b u wr) (λwr=>s.length - wr.iterPos (u+1))
 case atStart=>exact bc.o
 case round=>
  obtain ⟨i,t,m,l,g,h⟩:=hrel;have I:=h.it;have au:wr.iterPos (u+1)=i:=by simp [dc,I]
  have cc:u+1<wr.heap.size:=(Array.getElem?_eq_some_iff.1 I).1;have H:=Z h;clear h;cases t with
  |nil=>
   have bY:¬i<(⟨s.toArray⟩:ByteArray).size:=by have:i=(⟨s.toArray⟩:ByteArray).size:=H.o.run;omega
   have b3:∀C,(Instr.next (cq (X ⟨u+1,0,Y⟩)) true C).run prog wr=_:=λC=>Lib.run_next_end_at wr (u+1) ⟨s.toArray⟩ i C I bY;have r:=Z H.bld;have D:=Z H.all;have F:=Z H.j;have v:b<wr.heap.size:=H.tab.lt;have bO:=H.len;have cb:=H.pos;by_cases hl0:l=[]
   · subst hl0
     gi_wp2_with (first
      |(refine ⟨trivial,?_⟩;gi_at_call 114;refine (callsIn_wide.2 (pT (u+2) u g _ _ r.o)).mono ?_;rintro e o ⟨rfl,d⟩;have d:=d.symm;subst d))
     go_end0
     have h1:=D.o;simp only [bg,if_true,List.append_nil] at h1;exact ⟨⟨_,rfl⟩, .inl ⟨_,m,h1,F.o⟩⟩
   · have bT:(0:Int)<(l.length:Int):=by have:=List.length_pos_iff.2 hl0;omega
     have A:m++[l]=be s:=by rw [<- D.o];simp [bg,hl0]
     have ao:l≠[]/\m++[l]<+:be s:=⟨hl0,by rw [<- A];exact List.prefix_refl _⟩;have L:=Z A;clear A hl0
     gi_wp2_with (first
      |(refine ⟨trivial,?_⟩;gi_at_call 114;refine (callsIn_wide.2 (pT (u+2) u g _ _ r.o)).mono ?_;rintro e o ⟨rfl,d⟩;have d:=d.symm;subst d)
      |(refine ⟨trivial,?_⟩;gi_at_call 115;refine (callsIn_wide.2 (dX (u+2) u g l _ r.o (by omega))).mono ?_;rintro e o ⟨rfl,K⟩;have V:O (Mw b u g) m o:=y.o _ _ _ _ _ F.o (nM K (λk a=>(r.o.row k a).2) v (by omega));obtain ⟨fn,c7,bp,bs,hy,Q⟩:=HY.o _ m l o V ao;have HR:=Z Q;clear Q V))
     refine HR.mono ?_;rintro e w3 (⟨rfl,a4,a0,_⟩|⟨rfl,al⟩)
     · gi_wp2
       go_end0
       exact ⟨⟨_,rfl⟩, .inl ⟨_,m++[l],L.o,a4⟩⟩
     · gi_wp2
       go_end0
       exact ⟨⟨_,rfl⟩, .inr ⟨_,m++[l],⟨by simp,by rw [<- L.o];exact List.prefix_refl _⟩,al⟩⟩
  |cons c t=>
   obtain ⟨hp,B,cd,b8,b4⟩:=H.run;have b3:∀C,(Instr.next (cq (X ⟨u+1,0,Y⟩)) true C).run prog wr=_:=λC=>Lib.run_next_any_at wr (u+1) ⟨s.toArray⟩ i C I hp;have b0:=Lib.iterAt_heap wr (u+1) ⟨s.toArray⟩ i (i+(cz ⟨s.toArray⟩ i).2) I;have a1:∀k,k≠u+1->(wr.iterAt (u+1) ⟨s.toArray⟩ (i+(cz ⟨s.toArray⟩ i).2)).heap[k]? =wr.heap[k]? :=λk a=>Lib.iterAt_other _ _ _ _ _ a;have R:=Lib.below_iterAt (dz (u+1) wr) (k:=u+1) (cx _) ⟨s.toArray⟩ (i+(cz ⟨s.toArray⟩ i).2);have c3:=Lib.iterAt_size wr (u+1) ⟨s.toArray⟩ (i+(cz ⟨s.toArray⟩ i).2);rw [B] at b3;have bA:c<=1114111:=by rw [<- B,ec];exact Lib.decodeL_rune _
   generalize (wr.iterAt (u+1) ⟨s.toArray⟩ (i+(cz ⟨s.toArray⟩ i).2))=W1 at *;generalize (cz ⟨s.toArray⟩ i).2=z at *;have av:i+z<=s.length:=b8;have ac:Bld (u+2) u g l W1:=H.o.bld.keep (a1 _ (by omega)) (λk a=>a1 _ (by have:=(H.o.bld.row k a).1;omega));have a5:ak iH W1 b (dL rowsS):=H.o.tab.block (a1 _ (by omega));have b1:O (Mw b u g) m W1:=y _ _ _ _ _ H.j ⟨R.os,R.tape,R.output,R.size,λk a hn _=>a1 k (λe=>hn (.inr (.inr (.inl e)))),λk a=> .inl a,λk a=>by
    rcases a with rfl|rfl|rfl|a
    · have:=a5.lt;exact this
    · omega
    · omega
    · exact (ac.row k a.symm).2⟩
   have bO:=H.len;have bB:=oq c;have bt:u+2<=W1.heap.size:=by omega
   have r:=Z ac;have N:=Z a5;have F:=Z b1;have a9:=Z b4;have M:=Z b0;have HF:=Z (zr c b W1 bA a5);have D:=Z H.all;clear ac a5 b1 b4 I b0 a1 R c3 B hp b8;by_cases hf:bC c=[32]
   · have E:Hid (bg (c::t) l=if l=[] then bg t [] else l::bg t []):=by show bg _ _=_;rw [bg,if_pos hf]
     rw [hf] at HF;clear hf bB;have v:b<W1.heap.size:=N.lt;obtain ⟨_,p0,v0,b7,_⟩:=r.o;have ay:=Z b7;clear b7;by_cases hl0:l=[]
     · subst hl0;rw [if_pos rfl] at E
       gi_wp2_with (first
        |(refine ⟨trivial,?_⟩;gi_at_call 249;refine (callsIn_wide.2 HF.o).mono ?_;rintro e o ⟨rfl,d⟩;have d:=d.symm;subst d)
        |(refine ⟨trivial,?_⟩;gi_at_call 114;refine (callsIn_wide.2 (pT (u+2) u g _ _ r.o)).mono ?_;rintro e o ⟨rfl,d⟩;have d:=d.symm;subst d))
       refine ⟨trivial,?_⟩;gi_wp2
       refine ⟨λ_ h=>(by cases h),?_⟩;gi_wp2_with (refine ⟨trivial,?_⟩;gi_at_call 250;refine (callsIn_wide.2 (nS u p0 v0 _ ay.o)).mono ?_;rintro e o ⟨rfl,c4,a6⟩)
       go_roundw
       case rel=>
        exact ⟨i+z,t,m,[],Y,⟨(a6.block _ (by omega)).trans M.o,⟨by omega,cq Y,cl Y 0 0,c4, .inl rfl,dd _ _ _ _,rfl,λ_=>rfl⟩,N.o.block (a6.block _ (by omega)),
         y.o _ _ _ _ _ F.o (nU a6 v (by omega)),by rw [<- E.o];exact D.o,a9.o,by simp,av⟩⟩
       case measure=>
        have P:o.iterPos (u+1)=i+z:=by simp [dc,(a6.block (u+1) (by omega)).trans M.o]
        rw [P,au];omega
     · rw [if_neg hl0] at E;have bT:(0:Int)<(l.length:Int):=by have:=List.length_pos_iff.2 hl0;omega
       have bb:=Z hl0;clear hl0;have A:m++l::bg t []=be s:=by rw [<- E.o];exact D.o
       have ao:l≠[]/\m++[l]<+:be s:=⟨bb.o,by rw [<- A];exact ⟨bg t [],by simp⟩⟩;have L:=Z A;clear A
       gi_wp2_with (first
        |(refine ⟨trivial,?_⟩;gi_at_call 249;refine (callsIn_wide.2 HF.o).mono ?_;rintro e o ⟨rfl,d⟩;have d:=d.symm;subst d)
        |(refine ⟨trivial,?_⟩;gi_at_call 114;refine (callsIn_wide.2 (pT (u+2) u g _ _ r.o)).mono ?_;rintro e o ⟨rfl,d⟩;have d:=d.symm;subst d)
        |(refine ⟨trivial,?_⟩;gi_at_call 115;refine (callsIn_wide.2 (dX (u+2) u g l _ r.o (by omega))).mono ?_;rintro e o ⟨rfl,K⟩;have V:O (Mw b u g) m o:=y.o _ _ _ _ _ F.o (nM K (λk a=>(r.o.row k a).2) v (by omega));obtain ⟨fn,c7,bp,bs,hy,Q⟩:=HY.o _ m l o V ao;have HR:=Z Q;clear Q V))
       refine HR.mono ?_;rintro e w3 (⟨rfl,a4,a0,_⟩|⟨rfl,al⟩)
       · have G:=λk a=>(r.row k a).1;have ad:∀q,q<u+2->X q≠g:=λq hq e=>by have:=G q e.symm;omega
         have b6:w3.heap[u]? =X (ch #[p0,v0] 187 (0,0)):=(a0 u (.inr (.inl rfl))).trans ((o9 K u (by omega) (ad u (by omega))).trans ay.o);have aT:w3.heap[u+1]? =X (.stringIter ⟨s.toArray⟩ (i+z)):=(a0 (u+1) (.inr (.inr (.inl rfl)))).trans ((o9 K (u+1) (by omega) (ad _ (by omega))).trans M.o);have b2:ak iH w3 b (dL rowsS):=N.o.block ((a0 b (.inl rfl)).trans (o9 K b v (ad _ (by omega))));have bk:=Z b6;have a8:=Z aT;have ax:=Z b2;have b9:=Z a4;clear b6 aT b2 a4 a0
         gi_wp2_with (first
          |(refine ⟨trivial,?_⟩;gi_at_call 250;refine (callsIn_wide.2 (nS u p0 v0 _ bk.o)).mono ?_;rintro e w4 ⟨rfl,c5,a7⟩))
         go_roundw
         case rel=>
          exact ⟨i+z,t,m++[l],[],Y,⟨(a7.block _ (by omega)).trans a8.o,⟨by omega,cq Y,cl Y 0 0,c5, .inl rfl,dd _ _ _ _,rfl,λ_=>rfl⟩,ax.o.block (a7.block _ (by omega)),
           y.o _ _ _ _ _ b9.o (nU a7 ax.o.lt (Array.getElem?_eq_some_iff.1 a8.o).1),by rw [List.append_assoc];exact L.o,a9.o,by simp,av⟩⟩
         case measure=>
          have P:w4.iterPos (u+1)=i+z:=by simp [dc,(a7.block (u+1) (by omega)).trans a8.o]
          rw [P,au];omega
       · gi_wp2
         refine bodyPost_ret (results_none rfl _ _ _) rfl ?_;exact ⟨⟨_,rfl⟩, .inr ⟨_,m++[l],⟨by simp,⟨bg t [],by rw [List.append_assoc];exact L.o⟩⟩,al⟩⟩
   · have E:Hid (bg (c::t) l=bg t (l++bC c)):=by show bg _ _=_;rw [bg,if_neg hf]
     generalize bC c=f at *;have ca:(f==[32])=false:=by simpa using hf
     clear hf
     gi_wp2_with (first
      |(refine ⟨trivial,?_⟩;gi_at_call 249;refine (callsIn_wide.2 HF.o).mono ?_;rintro e o ⟨rfl,d⟩;have d:=d.symm;subst d)
      |(refine ⟨trivial,?_⟩;gi_at_call 112;refine (callsIn_wide.2 (dK (u+2) u g l f _ r.o bt (by omega))).mono ?_;rintro e o ⟨rfl,g2,aS,bD,a3⟩))
     go_roundw
     case rel=>
      have G:=λk a=>(r.row k a).1;have v:b<W1.heap.size:=N.lt
      exact ⟨i+z,t,m,l++f,g2,⟨(zq a3 G (u+1) (by omega) (by omega) (by omega) (rfl:b=b)).trans M.o,aS,N.o.block (zq a3 G b v (by omega) (by omega) (rfl:b=b)),
       y.o _ _ _ _ _ F.o (ve a3 bD (λk a=>(aS.row k a).2) v (by omega)),by rw [<- E.o];exact D.o,a9.o,by rw [er];omega,av⟩⟩
     case measure=>
      have G:=λk a=>(r.row k a).1;have P:o.iterPos (u+1)=i+z:=by simp [dc,(zq a3 G (u+1) (by omega) (by omega) (by omega) (rfl:b=b)).trans M.o]
      rw [P,au];omega
attribute [local go_sem] Oper.semAt_some
theorem i9:(prog.info? 9).map (λi=>(i.zero,i.size,i.bytes))=X (X (.string ⟨#[]⟩),1,16):=by kernel_rfl
structure gF (w:cy) (Bo:Nat) (M:Nat->Prop) (pre:List Bs) (W:cy):Prop where
 o:∃v,Boxed W Bo 81 v/\W.ownsRow w.heap.size 9 1 v pre.length (pre.map λs=>S s)/\∀g,v.ownBlock=some g->¬M g
 b:Bw w W
 lt:∀k,M k->k<W.heap.size/\w.heap.size<=k
 box:¬M Bo
theorem gF.stable (w:cy) (l B:Nat) (C:w.heap.size<=B):ij B (gF w l):=by
 intro M s m z y h a;obtain ⟨v,j,p,x⟩:=h.o;have u:∀k,k<m.heap.size->¬M k->(∃cs t,m.heap[k]? =X (ch cs t (0,0)))->y.heap[k]? =m.heap[k]? :=λk h1 q n=>by obtain ⟨cs,t,n⟩:=n;exact a.block k h1 q λ_ o i=>by rw [n] at i;injection i with i;subst i;rfl
 refine ⟨⟨v,(u l (ae j) h.box ⟨_,_,j⟩).trans j,ah p (λg d=>?_),λg d e=>?_⟩,?_,λk f=>⟨a.lt k f,?_⟩,λe=>?_⟩
 · obtain ⟨A,r⟩:=aA p d;exact u g (ae r) (x g d) ⟨_,_,r⟩
 · have:=lS p g d;rcases a.new g e with h1|h1
   · exact x g d h1
   · omega
 · have c:=h.b;exact ⟨a.os.trans c.os,a.tape.trans c.tape,a.output.trans c.output,Nat.le_trans c.size a.size,λk f=>(a.block k (by have:=c.size;omega) (λe=>by have:=(h.lt k e).2;omega) (λq=>by omega)).trans (c.block k f)⟩
 · rcases a.new k f with h1|h1
   · exact (h.lt k h1).2
   · have:=h.b.size;omega
 · rcases a.new l e with h1|h1
   · exact h.box h1
   · have:=ae j;omega
theorem nt (n:Nat) (hn:3<=n) (g:Nat) (lb:Array Value) (eg:∀args w,(callFunc g args).run prog w= .ok (.enter g args) w) (B T:List Bs->Prop) (G:List Bs->Bs->Prop) (hG:∀p x,G p x->p.length<100000000) (w:cy)
 (a4:iE dy (n - 1) prog g lb (λx:Bs=> #[S x]) B T G (λ_=>False) w):
 CallsIn dy n prog 290 #[cl Y 0 0, .func (.func g) #[] lb] w λe w'=>∃(v:Value) (r:List Bs),e=cm v/\B r/\w'.ownsRow w.heap.size 9 1 v r.length (r.map λs=>S s)/\Bw w w':=by
 have h1:1<=n:=by omega
 refine callsIn_of_wp_marks func290 rfl trivial ?_ rfl;simp only [ntmps290,dk,cv,dx,em,ej,cQ,cP,dn,da,ds,dp];gi_wp2
 have V:=Boxed.new w 81 (cl Y 0 0);have y:Bw w (w.alloc (ch #[cl Y 0 0] 81)):=(dz _ w).alloc (cx _) _
 refine lz rfl h1 (gf:=g) (lb:=lb) rfl trivial eg a4 (λk a=>a.elim) y (λ_=>rfl) (gF w w.heap.size) (λ_ _ _ _=>False) (gF.stable w _ _ y.size) (λ_ _ _ _ _ _ h _=>h) (λM s a9 h k a=>(h.lt k a).1) (λ_ _ _ _ h=>h.elim)
  ⟨⟨_,V,dd _ _ _ _,λg hg=>by cases hg⟩,y,λk a=>a.elim,λh=>h⟩
  (λx=>{tmps:= #[cl Y 0 0, .func (.func g) #[] lb,cq (X ⟨w.heap.size,0,Y⟩),undef,cl Y 0 0,S x, .func (.func g) #[] lb,S x,undef,undef,undef,undef,undef],defers:=[]}) ?assign ?body ?done ?stop
 case assign=>
  intro l x W K f;gi_wp2
  exact f
 case body=>
  rintro l M p x W h H;have H:=hG _ _ H;obtain ⟨v,m,j,N⟩:=h.o;have hc:=m.cell;obtain ⟨i0,hi,a6,a7,a8⟩:=info_parts i9;have d:=Z h.b;have t:=Z j;have R:=Z m;have A:=Z N;have z:=Z h;clear h j m N;gi_wp2_with (gi_at_builtin;refine wpListIn_append_own_at _ rfl _ _ 81 rfl w.heap.size 9 i0 (.string ⟨#[]⟩) 1 16 underlying81 hi a6 a7 a8 rfl (by decide) _ _ _ rfl (t.o.alloc _) ⟨W.heap.size,0,Y⟩ 1 1 [S x] rfl rfl (cell_one_new _ _ _) (by simp [Value.oneCell']) (by unfold maxLen;omega) (by omega) (by have:=d.o.size;simp;omega) ?_;intro v' w1 O F _ I;obtain ⟨g',a0,rfl⟩:=ownsRow_succ O;obtain ⟨P,a5,a3,a1,C⟩:=R.o.appended (by decide) t.o d.o.size (cx _) O F;have ac:=P.cell;have ad:=P.frozen;have Q:=Z I;clear I)
  have al:=d.size;have u:=z.lt;have E:=z.box;have a2:∀k,M k->(w1.setCell ⟨w.heap.size,0,Y⟩ (cl (X ⟨g',0,Y⟩) (p.length+1) a0)).heap[k]? =W.heap[k]? :=λk a=>by have h1:=(u k a).1;rw [Below.heap_setCell _ _ _ _ (λ(e:k=w.heap.size)=>E (e ▸ a)),F.block k (by simp;omega) (λe=>A.o k e.symm a),Below.heap_alloc _ _ _ h1]
  refine ⟨a1,a2,⟨⟨_,a5,?_,λq i L=>?_⟩,d.trans C,λk a=>⟨?_,(u k a).2⟩,E⟩⟩
  · rw [er,List.map_append];exact a3
  · rcases Q.o with e|e
    · exact A q (e ▸ i) L
    · rw [e] at i;injection i with i
      have:=(u q L).1;simp at i;omega
  · exact di (u k a).1 C.size
 case done=>
  rintro D M r W hD hS h f;obtain ⟨v,m,j,_⟩:=h.o;have hc:=m.cell;have t:=Z j;have d:=Z h.b;clear h j;gi_wp2
  refine ⟨by simp, .inl ⟨_,_,rfl,run_takeDeferred f,?_⟩⟩;exact ⟨_,results_tmp rfl _ _ _,v,r,rfl,hS,ownsRow_putObj t.o _ f rfl,d.o.trans (belowK_b (w:=w) (cx _) W D _ _ (by simp at hD;omega) f rfl rfl)⟩
 case stop=> rintro D c M p W _ _ h _;exact h.elim
theorem sK (n:Nat) (m:4<=n) (g:Nat) (lb:Array Value) (f:∀args w,(callFunc g args).run prog w= .ok (.enter g args) w) (b c:List Bs->Prop) (G:List Bs->Bs->Prop) (h:∀d x,G d x->d.length<100000000) (w:cy)
 (l:iE dy (n - 1 - 1) prog g lb (λx:Bs=> #[S x]) b c G (λ_=>False) w):
 Calls prog 243 #[.func (.func g) #[] lb] w λe w'=>∃(v:Value) (a:List Bs),e=cm v/\b a/\w'.ownsRow w.heap.size 9 1 v a.length (a.map λs=>S s)/\Bw w w':=by
 have h1:1<=n:=by omega
 refine (callsIn_wide (n:=n)).1 ?_;refine callsIn_of_wp func243 rfl trivial ?_ rfl;simp only [ntmps243,dk,cv,dx,em,ej,cQ,cP,dn,da,ds,dp];gi_wp2_with (refine ⟨trivial,?_⟩;gi_at_call 290;refine (nt (n - 1) (by omega) g lb f b c G h _ l).mono ?_;rintro e w' ⟨v,a,rfl,i,k,j⟩)
 go_ret;exact ⟨v,a,rfl,i,k,j⟩
theorem jQ (s:Bs) (w:cy):Calls prog 185 #[S s] w λe w'=>e=cm (.func (.func 247) #[] #[cq (X ⟨w.heap.size,0,Y⟩)])/\w'=w.alloc (ch #[S s] 9):=by
 go_enter func185,ntmps185;go_wp2_with fail
 go_ret;exact ⟨rfl,rfl⟩
theorem qS (a:List Nat) (l:Bs):(bg a l).length<=a.length+1:=by
 induction a generalizing l with
 |nil=>unfold bg;split<;>simp
 |cons c a ih=>
  unfold bg;split
  · split
    · have:=ih [];simp only [cv];omega
    · have:=ih [];simp only [cv];omega
  · have:=ih (l++bC c);simp only [cv];omega
theorem eL (s:Bs):(be s).length<=s.length+1:=by
 have h1:=qS (runesR s) [];have a:=lR s;unfold be;omega
theorem vZ (s:Bs) (g:s.length<=1000000) (w:cy):Calls prog 182 #[S s] w λe w'=>∃v,e=cm v/\w'.ownsRow w.heap.size 9 1 v (be s).length ((be s).map λs=>S s)/\Bw w w':=by
 have i:=eL s;have a:=jR 5 (by omega) w.heap.size s g (w.alloc (ch #[S s] 9)) (by rw [ee];rfl);have b:=Z (sK 7 (by omega) 247 #[cq (X ⟨w.heap.size,0,Y⟩)] (enters_of func247 (by kernel_rfl) rfl) _ _ _ (λj x h=>by have:=h.2.length_le;simp at this;omega) _ a);clear a;go_enter func182,ntmps182
 go_wp2_with (first
  |(go_at_call 185;((with_reducible refine es (jQ s _) ?_);rintro e w1 ⟨rfl,rfl⟩))
  |(go_at_call 243;((with_reducible refine es b.o ?_);rintro e w1 ⟨v,k,rfl,c,f,d⟩)))
 go_ret;obtain rfl:=c;exact ⟨v,rfl,bz f (by simp),((dz _ w).alloc (cx _) _).trans (d.mono (by simp))⟩
end
section
open Go.Shelf
def r3:Go.Shelf.Ren:=⟨λ|190=>186|125=>136|258=>251|128=>199|129=>200|302=>294|303=>295|304=>296|305=>297|306=>298|307=>299|308=>300|309=>301|310=>302|333=>325|329=>261|330=>262|334=>326|335=>327|336=>328|344=>341|n=>n,λ|31=>81|9=>9|3=>3|46=>218|0=>0|51=>277|53=>143|4=>4|183=>271|182=>270|131=>112|5=>5|218=>317|222=>320|228=>367|229=>368|n=>n,λ|n=>n⟩
theorem vG:Go.Proofs.Lays.n190 prog r3:={
 mixed:=by kernel_rfl
 f125:=Qf func136
 f128:=Qf func199
 f129:=Qf func200
 f190:=Qf func186
 f258:=Qf func251
 f302:=Qf func294
 f303:=Qf func295
 f304:=Qf func296
 f305:=Qf func297
 f306:=Qf func298
 f307:=Qf func299
 f308:=Qf func300
 f309:=Qf func301
 f310:=Qf func302
 f329:=Qf func261
 f330:=Qf func262
 f333:=Qf func325
 f334:=Qf func326
 f335:=Qf func327
 f336:=Qf func328
 f344:=Qf func341
 t0:=underlying0
 a0:=Tryz.isAgg0
 z0:=sizeOf0
 v0:=zeroValue0
 t3:=underlying3
 a3:=Tryz.isAgg3
 z3:=sizeOf3
 v3:=zeroValue3
 t4:=underlying4
 a4:=Tryz.isAgg4
 z4:=sizeOf4
 v4:=zeroValue4
 t5:=underlying5
 a5:=Tryz.isAgg5
 z5:=sizeOf5
 v5:=zeroValue5
 t9:=underlying9
 a9:=Tryz.isAgg9
 z9:=sizeOf9
 v9:=zeroValue9
 t31:=underlying81
 a31:=Tryz.isAgg81
 z31:=sizeOf81
 v31:=zeroValue81
 t46:=underlying218
 a46:=Tryz.isAgg218
 z46:=sizeOf218
 v46:=zeroValue218
 t51:=underlying277
 a51:=Tryz.isAgg277
 z51:=sizeOf277
 v51:=zeroValue277
 t53:=underlying143
 a53:=Tryz.isAgg143
 z53:=sizeOf143
 v53:=zeroValue143
 t131:=underlying112
 a131:=Tryz.isAgg112
 z131:=sizeOf112
 v131:=zeroValue112
 t182:=underlying270
 a182:=Tryz.isAgg270
 z182:=sizeOf270
 v182:=zeroValue270
 t183:=underlying271
 a183:=Tryz.isAgg271
 z183:=sizeOf271
 v183:=zeroValue271
 t218:=underlying317
 a218:=Tryz.isAgg317
 z218:=sizeOf317
 v218:=zeroValue317
 t222:=underlying320
 a222:=Tryz.isAgg320
 z222:=sizeOf320
 v222:=zeroValue320
 t228:=underlying367
 a228:=Tryz.isAgg367
 z228:=sizeOf367
 v228:=zeroValue367
 t229:=underlying368
 a229:=Tryz.isAgg368
 z229:=sizeOf368
 v229:=zeroValue368}
open Go.Sort Go.RowKit in
theorem slices_Sort_string (a c d:Nat) (b:List (List UInt8)) (w:cy) (f:Holds encStr w a c b.toArray) (g:a<w.heap.size) (h:b.length<4611686018427387904):
 Calls prog 186 #[cl (X ⟨a,c,Y⟩) b.length d] w λe w'=>
  e=cm (.tuple #[])/\∃n i,w'=grow (putRow encStr (Sort.ahead w n) a c (b.mergeSort λx y=>decide (x<=y)).toArray) i:=Any.slices_Sort_string vG a c d b w f g h
def rZ:Go.Shelf.Ren:=⟨λ|193=>189|n=>n,λ|31=>81|9=>9|4=>4|3=>3|0=>0|n=>n,λ|n=>n⟩
theorem pV:Go.Proofs.Lays.n193 prog rZ:={
 mixed:=by kernel_rfl
 f193:=Qf func189
 t0:=underlying0
 a0:=Tryz.isAgg0
 z0:=sizeOf0
 v0:=zeroValue0
 t3:=underlying3
 a3:=Tryz.isAgg3
 z3:=sizeOf3
 v3:=zeroValue3
 t4:=underlying4
 a4:=Tryz.isAgg4
 z4:=sizeOf4
 v4:=zeroValue4
 t9:=underlying9
 a9:=Tryz.isAgg9
 z9:=sizeOf9
 v9:=zeroValue9
 t31:=underlying81
 a31:=Tryz.isAgg81
 z31:=sizeOf81
 v31:=zeroValue81}
open Go.RowKit Go.Lib in
theorem slices_Equal_string (b g n c f h m d:Nat) (a ys:List ByteArray) (w:cy) (p:n<=a.length) (r:m<=ys.length) (i:n<=9223372036854775807) (k:m<=9223372036854775807) (l:∀j,j<a.length->w.cell? ⟨b,g+j,Y⟩=X (.string (a.getD j ByteArray.empty))) (o:∀j,j<ys.length->w.cell? ⟨f,h+j,Y⟩=X (.string (ys.getD j ByteArray.empty))):
 Calls prog 189 #[cl (X ⟨b,g,Y⟩) n c,cl (X ⟨f,h,Y⟩) m d] w λe w'=>e=cm (cu (decide (a.take n=ys.take m)))/\∃q,w'=w.drewN q:=Any.slices_Equal_string pV b g n c f h m d a ys w p r i k l o
open Go.RowKit Go.Lib in
theorem slices_Equal_string_empty (a b:Option Addr) (c m d:Nat) (w:cy) (f:m<=9223372036854775807):
 Calls prog 189 #[cl a 0 c,cl b m d] w λe w'=>e=cm (cu (decide (m=0)))/\w'=w:=Any.slices_Equal_string_empty pV a b c m d w f
open Go.RowKit Go.Sort in
theorem slices_Sort_string_none (p:Option Addr) (a:Nat) (w:cy):
 Calls prog 186 #[cl p 0 a] w λe w'=>e=cm (.tuple #[])/\w'=w:=Any.slices_Sort_string_none vG p a w
open Go.RowKit Go.Lib in
theorem slices_Equal_string_lens (a b:Option Addr) (n c m d:Nat) (w:cy) (f:n≠m):
 Calls prog 189 #[cl a n c,cl b m d] w λe w'=>e=cm (cu false)/\w'=w:=Any.slices_Equal_string_lens pV a b n c m d w f
end
end Go.Proofs.YtjcimanddakkaaaGreatDoor
