/- Lemmas. -/
import Derived.Test.YtjcimanddakkaaaGreatDoorX0
import Derived.Test.YtjcimanddakkaaaGreatDoorX2
import Derived.Test.YtjcimanddakkaaaGreatDoorX3
set_option maxRecDepth 100000
set_option maxHeartbeats 8000000
namespace Go.Proofs.YtjcimanddakkaaaGreatDoor
open Go.Lib renaming hid→a0a
open Go.RowKit renaming Below→a0b
open Go.World renaming alloc_heap_new→a0c,ownsRow_nil→a0d
open _root_.List renaming flatMap_cons→a0e,getElem?_eq_getElem→a0m,getElem?_eq_none→a0n
open _root_.Nat renaming succ_mul→a0f,lt_or_ge→a0g,le_refl→a0j
open Go renaming Value→a0h,World→a0l
open Go.Proofs.Tryz renaming prog→a0i
open Go.RowKit.Below renaming refl→a0k
open _root_.Bool renaming and_eq_false_iff→a0o
section
open Go.RowKit Go.Maps Go.Shelf
def verCells (p:RK×VX):List a0h:=[.int .i64 p.1.1, .int .i64 p.1.2, .int .i64 p.2.1.1, .int .u8 p.2.1.2.kind.toNat, .int .u8 p.2.1.2.level.toNat,p.2.2]
def dropCells (p:RK×Int):List a0h:=[.int .i64 p.1.1, .int .i64 p.1.2, .int .i64 p.2]
def decCells (p:PK×(Int×Bool)):List a0h:=[.int .i64 p.1.1.1, .int .i64 p.1.1.2, .int .i64 p.1.2.1, .int .i64 p.1.2.2, .int .i64 p.2.1, .bool p.2.2]
def restM (F:Nat->Prop) (p:Nat) (a b c:a0h) (k:Nat):Prop:=F k/\k≠p/\a.ownBlock≠some k/\b.ownBlock≠some k/\c.ownBlock≠some k
structure ek (F:Nat->Prop) (w:a0l) (p:Nat) (v1 v2 v3:a0h) (xs:List (RK×VX)) (d:ar):Prop where
 blk:w.heap[p]? =some (.cells #[v1,v2,v3] 34 (0,0))
 vx:xs.map (λp=>(p.1,p.2.1))=d.vs
 vs:w.ownsRow 0 64 6 v1 xs.length (xs.flatMap verCells)
 fx:∀q∈xs,dF (restM F p v1 v2 v3) w q
 ds:w.ownsRow 0 142 3 v2 d.ds.length (d.ds.flatMap dropCells)
 ps:w.ownsRow 0 38 6 v3 d.ps.length (d.ps.flatMap decCells)
 fp:F p
 f1:∀g,v1.ownBlock=some g->F g
 f2:∀g,v2.ownBlock=some g->F g
 f3:∀g,v3.ownBlock=some g->F g
 lt:∀k,F k->k<w.heap.size
 ok:aY d
def bM (F:Nat->Prop) (w:a0l) (p:Nat) (d:ar):Prop:=∃a b c e,ek F w p a b c e d
theorem ek.step {F:Nat->Prop} {w w':a0l} {p:Nat} {e f i:a0h} {j:List (RK×VX)} {d:ar} (h:ek F w p e f i j d) (b:∀k,F k->w'.heap[k]? =w.heap[k]?) (c:w.heap.size<=w'.heap.size):ek F w' p e f i j d:=
 ⟨(b p h.fp).trans h.blk,h.vx,ah h.vs (λg a=>b g (h.f1 g a)),λq m=>(h.fx q m).step (λk n=>b k n.1) c,ah h.ds (λg a=>b g (h.f2 g a)),ah h.ps (λg a=>b g (h.f3 g a)),h.fp,h.f1,h.f2,h.f3,λk l=>Nat.lt_of_lt_of_le (h.lt k l) c,h.ok⟩
theorem ek.below {F:Nat->Prop} {w w':a0l} {p:Nat} {b c e:a0h} {f:List (RK×VX)} {d:ar} (h:ek F w p b c e f d) (a:a0b w.heap.size w w'):ek F w' p b c e f d:=
 h.step (λk g=>a.block k (h.lt k g)) a.size
theorem bM.step {F:Nat->Prop} {w w':a0l} {p:Nat} {d:ar} (h:bM F w p d) (a:∀k,F k->w'.heap[k]? =w.heap[k]?) (b:w.heap.size<=w'.heap.size):bM F w' p d:=by
 obtain ⟨c,e,f,g,h⟩:=h;exact ⟨c,e,f,g,h.step a b⟩
theorem bM.below {F:Nat->Prop} {w w':a0l} {p:Nat} {d:ar} (h:bM F w p d) (a:a0b w.heap.size w w'):bM F w' p d:=by
 obtain ⟨b,c,e,f,h⟩:=h;exact ⟨b,c,e,f,h.below a⟩
theorem ek.sx {F:Nat->Prop} {w:a0l} {p:Nat} {c e f:a0h} {b:List (RK×VX)} {d:ar} (h:ek F w p c e f b d):aw ltRK b:=by
 have a:=h.ok.ok.vs;rw [<- h.vx] at a;unfold aw at a ⊢;rw [List.pairwise_map] at a;exact a
theorem ek.len {F:Nat->Prop} {w:a0l} {p:Nat} {b c e:a0h} {a:List (RK×VX)} {d:ar} (h:ek F w p b c e a d):a.length=d.vs.length:=by rw [<- h.vx];simp
theorem ek.lx {F:Nat->Prop} {w:a0l} {p:Nat} {b c e:a0h} {a:List (RK×VX)} {d:ar} (h:ek F w p b c e a d):a.length<=5000:=by rw [h.len];exact h.ok.vlen
theorem tZ {α:Type} (enc:α->List a0h) (n:Nat) (b:∀x,(enc x).length=n):∀(a:List α) (m i:Nat) (hm:m<a.length),i<n->(a.flatMap enc)[m * n+i]? =(enc a[m])[i]?
 |x::a,0,i,hm,hi=>by
  rw [a0e,Nat.zero_mul,Nat.zero_add,List.getElem?_append_left (by rw [b];exact hi)];rfl
 |x::a,m+1,i,hm,hi=>by
  rw [a0e,List.getElem?_append_right (by rw [b,a0f];omega),b,show (m+1) * n+i - n=m * n+i by rw [a0f];omega,tZ enc n b a m i (by simpa using hm) hi]
  rfl
theorem bP {α:Type} (enc:α->List a0h) (n:Nat) (c:∀x,(enc x).length=n) (b:List α):(b.flatMap enc).length=b.length * n:=by
 induction b with
 |nil=>simp
 |cons a l ih=>rw [a0e,List.length_append,c,ih,List.length_cons,a0f];omega
theorem eu {α:Type} {w:a0l} {e k:Nat} {v:a0h} {enc:α->List a0h} {a:List α} (d:∀x,(enc x).length=k) (h:w.ownsRow 0 e k v a.length (a.flatMap enc)) (m:Nat) (f:m<a.length):
 ∃g c,v= .slice (some ⟨g,0,none⟩) a.length c/\g<w.heap.size/\∀i u,(enc a[m])[i]? =some u->w.cell? ⟨g,m * k+i,none⟩=some u:=by
 rcases h.2 with ⟨rfl,q⟩|⟨g,l,p,rfl,_⟩
 · omega
 · refine ⟨g,l,rfl,(h.lt g (by simp [Value.ownBlock])).2,λi u j=>?_⟩;have o:i<k:=by rw [<- d a[m]];exact (List.getElem?_eq_some_iff.1 j).1
   have b:=tZ enc k d a m i f o;rw [j] at b;have n:m * k+i<a.length * k:=by have:=Nat.mul_le_mul_right k (show m+1<=a.length from f);rw [a0f] at this;omega
   rw [h.cellAt _ n];exact b
theorem An (w:a0l):Calls a0i 33 #[] w λe w'=>e= .returned (.pointer (some ⟨w.heap.size,0,none⟩))/\w'=w.alloc (.cells #[.slice none 0 0, .slice none 0 0, .slice none 0 0] 34):=by
 go_enter Tryz.func33,Tryz.ntmps33;go_wp2;go_ret;exact ⟨rfl,rfl⟩
theorem yI (w:a0l):bM (λk=>k=w.heap.size) (w.alloc (.cells #[.slice none 0 0, .slice none 0 0, .slice none 0 0] 34)) w.heap.size cat0:=by
 refine ⟨.slice none 0 0, .slice none 0 0, .slice none 0 0,[],a0c w _,rfl,a0d _ _ _ _,?_,a0d _ _ _ _,a0d _ _ _ _,rfl,?_,?_,?_,λk b=>by rw [b];simp,kf⟩
 · intro p c;cases c
 · intro m a;cases a
 · intro m a;cases a
 · intro m a;cases a
theorem zr (F:Nat->Prop) (w:a0l) (p:Nat) (v1 L v3:a0h) (xs:List (RK×VX)) (d:ar) (h:ek F w p v1 L v3 xs d) (k:RK):
 Calls a0i 81 #[.pointer (some ⟨p,0,none⟩),recK k] w λe w'=>e= .returned (.tuple #[.int .i64 (placeK ltRK d.ds k), .bool (findK d.ds k).isSome])/\a0b w.heap.size w w':=by
 have au:d.ds.length<=5000:=h.ok.dlen;have Z:=a0a (ez aL h.ok.ok.ds k);have al:Hid (∀i (h2:i<d.ds.length),i<placeK ltRK d.ds k->ltRK d.ds[i].1 k=true):=λi h2 hi=>kM d.ds k i hi h2;have ad:Hid (∀h:placeK ltRK d.ds k<d.ds.length,ltRK d.ds[placeK ltRK d.ds k].1 k=false):=λh=>kN d.ds k h;have a6:=gc (lt:=ltRK) d.ds k;obtain ⟨l,o⟩:=k;obtain ⟨w1,B⟩:∃w1,w.alloc (.cells #[.int .i64 l, .int .i64 o] 36)=w1:=⟨_,rfl⟩;have Q:a0b w.heap.size w w1:=by rw [<- B];exact (a0k _ w).alloc (a0j _) _
 have m:=a0c w (.cells #[.int .i64 l, .int .i64 o] 36);rw [B] at m;have HK:=a0a m;have G:=a0a (h.below Q);have Y:=a0a Q;have a9:w1.heap.size=w.heap.size+1:=by rw [<- B];simp
 have a3:=a0a a9;have ao:=a0a B;obtain ⟨va,X,hv⟩:=aK h.ds;have a0:Hid (w1.ownsRow 0 142 3 L d.ds.length (d.ds.flatMap dropCells)):=G.ds
 have O:Hid (∀W,a0b w1.heap.size w1 W->W.cell? ⟨p,1,none⟩=some L/\W.cell? ⟨w.heap.size,0,none⟩=some (.int .i64 l)/\W.cell? ⟨w.heap.size,1,none⟩=some (.int .i64 o)):=λW x=>
  ⟨(aa ((x.block _ (G.out.lt p G.out.fp)).trans G.out.blk) 1).trans rfl,(aa ((x.block _ (by omega)).trans m) 0).trans rfl,(aa ((x.block _ (by omega)).trans m) 1).trans rfl⟩
 obtain ⟨q,V⟩:∃q,placeK ltRK d.ds (l,o)=q:=⟨_,rfl⟩;rw [V] at a6;have u:=a0a V;obtain ⟨N,I⟩:∃N,d.ds.length=N:=⟨_,rfl⟩;rw [I] at au a6;have H:=a0a I;have a8:L= .slice va N X:=by rw [<- I];exact hv
 rw [a8] at a0 O;clear h Q m a9 B hv V I a8;unfold recK;dsimp only;go_enter Tryz.func81,Tryz.ntmps81;go_wp2_with fail
 rw [ao.out];go_loopw [6] (λj wr=>∃i:Nat,j= .int .i64 i/\i<=q/\Hid (a0b w1.heap.size w1 wr)) (λj _=>N - (intOf j).toNat)
 case atStart=>exact ⟨0,rfl,Nat.zero_le _,a0k _ _⟩
 case round=>
  obtain ⟨i,rfl,hi,C⟩:=hrel;by_cases hlt:i<N
  · have U:i<d.ds.length:=by rw [H.out];exact hlt
    have a7:=a0.out;rw [<- H.out] at a7;obtain ⟨g,c,he,hg,J⟩:=eu (enc:=dropCells) (λ_=>rfl) a7 i U;injection he with he1 he2 he3
    subst he1 he3;obtain ⟨e,A⟩:∃e,d.ds[i]=e:=⟨_,rfl⟩;rw [A] at J;have D:Hid (i<q->ltRK e.1 (l,o)=true):=λT=>by rw [<- A];exact al.out i U (by rw [u.out];exact T)
    have E:Hid (i=q->ltRK e.1 (l,o)=false):=λT=>by subst T;have h1:=ad.out (by rw [u.out];exact U);simp only [u.out] at h1;rw [<- A];exact h1
    have ac:=a0a A;obtain ⟨⟨r,s⟩,em⟩:=e;have P:=J 0 _ rfl;have c1:=J 1 _ rfl;rw [Nat.add_zero] at P
    have t:Hid (∀W,a0b w1.heap.size w1 W->(W.cell? ⟨p,1,none⟩=some (.slice (some ⟨g,0,none⟩) N X)/\W.cell? ⟨w.heap.size,0,none⟩=some (.int .i64 l)/\W.cell? ⟨w.heap.size,1,none⟩=some (.int .i64 o))/\W.cell? ⟨g,i * 3,none⟩=some (.int .i64 r)/\W.cell? ⟨g,i * 3+1,none⟩=some (.int .i64 s)):=λW x=>
     ⟨O W x,((aE x).1 g _ hg).trans P,((aE x).1 g _ hg).trans c1⟩
    have HL:Hid (∀W,Calls a0i 25 #[.agg #[.int .i64 r, .int .i64 s], .agg #[.int .i64 l, .int .i64 o]] W λe w'=>e= .returned (.bool (ltRK (r,s) (l,o)))/\a0b W.heap.size W w'):=λW=>iK (r,s) (l,o) W;have ax:(i:Int)<(N:Int):=by omega
    have n:a0b w1.heap.size w1 wr.drew:=C.drew;have av:=C.size;dsimp only at D E;generalize hltv:ltRK (r,s) (l,o)=b at *;clear J P c1 hltv A;go_wp2_with fail
    refine wT (λW=>a0b w1.heap.size w1 W) 999 ?_;have a:=tkL [0,1,2,3,4];repeat (refine tkIS a ?_ rfl n ?_ ?_;rotate_left;intro w' h;have z:=t w' h;go_simp;rfl;(try go_simp);replace a:=tkO a)
    clear a;refine dO 5 rfl λK m=>?_;go_simp;refine m _ _ (λ_=>n) ?_;clear m K;have a:=tkL [6,7,8,9,10,11,12,13,14,15,16];repeat (refine tkIS a ?_ rfl n ?_ ?_;rotate_left;intro w' h;have z:=t w' h;go_simp;rfl;(try go_simp);replace a:=tkO a)
    clear a;refine dB 17 rfl λK m=>?_;go_simp;go_at_call 25;refine (HL _).mono ?_;rintro e w3 ⟨rfl,a4⟩;have f:a0b w1.heap.size w1 w3:=n.trans (a4.mono av);refine m _ _ (λ_=>f) ?_;clear m K;refine tkS 18 ?_ rfl f ?_ ?_;rotate_left;intro w' h;go_simp;rfl;try go_simp
    refine dN ?_;have M:=a0a f;clear f n a4;cases b
    · have a5:i=q:=by
       rcases a0g i q with h|h
       · have:=D h;cases this
       · omega
      subst a5;clear D E;go_wp2_with fail
      have f:a0b w1.heap.size w1 w3.drew:=M.drew;refine wT (λW=>a0b w1.heap.size w1 W) 999 ?_;have a:=tkL [0,1,2,3,4,5];repeat (refine tkIS a ?_ rfl f ?_ ?_;rotate_left;intro w' h;have z:=t w' h;go_simp;rfl;(try go_simp);replace a:=tkO a)
      clear a;refine dO 6 rfl λK m=>?_;go_simp;refine m _ _ (λ_=>f) ?_;clear m K;have a:=tkL [7,8,9,10,11,12,13,14,15,16,17];repeat (refine tkIS a ?_ rfl f ?_ ?_;rotate_left;intro w' h;have z:=t w' h;go_simp;rfl;(try go_simp);replace a:=tkO a)
      clear a;refine bT (i:=18) (v:= .bool (decide (r=l)&&decide (s=o))) rfl (by kernel_rfl) (by kernel_rfl) (by kernel_rfl) (by rfl) (λ_ _ _ h=>h) f (Or.inl ⟨by rfl,?_⟩) ?_;focus (intro w' h;by_cases g1:r=l<;>by_cases y:s=o<;>simp [g1,y]<;>go_simp<;>rfl)
      (try go_simp)
      have a:=tkL [19,20,21];repeat (refine tkIS a ?_ rfl f ?_ ?_;rotate_left;intro w' h;go_simp;rfl;(try go_simp);replace a:=tkO a)
      clear a;refine dN ?_;go_wp2_with fail
      go_ret2;refine ⟨?_,Y.out.trans (M.out.drew.mono (by have:=a3.out;omega))⟩;have R:findK d.ds (l,o)=if (r,s)=(l,o) then some em else none:=by have:=Z.out;rw [u.out,a0m (by rw [H.out];exact hlt),ac.out] at this;exact this
      rw [R,u.out];by_cases hk:(r,s)=(l,o)
      · rw [if_pos hk];injection hk with g1 y
        rw [decide_eq_true g1,decide_eq_true y];rfl
      · rw [if_neg hk];have:(decide (r=l)&&decide (s=o))=false:=by
         rw [a0o,decide_eq_false_iff_not,decide_eq_false_iff_not];rcases Classical.em (r=l) with g|g
         · exact .inr λy=>hk (by rw [g,y])
         · exact .inl g
        rw [this];rfl
    · have a5:i<q:=by
       rcases a0g i q with h|h
       · exact h
       · have:=E.out (by omega);cases this
      clear D E;go_wp2_with fail
      go_roundw
      case rel=>exact ⟨i+1,by go_num,by omega,M⟩
      case measure=>simp [intOf];omega
  · obtain rfl:i=N:=by omega
    obtain rfl:q=i:=by omega
    have t:Hid (∀W,a0b w1.heap.size w1 W->(W.cell? ⟨p,1,none⟩=some (.slice va q X)/\W.cell? ⟨w.heap.size,0,none⟩=some (.int .i64 l)/\W.cell? ⟨w.heap.size,1,none⟩=some (.int .i64 o))):=O.out;have n:a0b w1.heap.size w1 wr.drew:=C.drew;go_wp2_with fail
    refine wT (λW=>a0b w1.heap.size w1 W) 999 ?_;have a:=tkL [0,1,2,3,4];repeat (refine tkIS a ?_ rfl n ?_ ?_;rotate_left;intro w' h;have z:=t w' h;go_simp;rfl;(try go_simp);replace a:=tkO a)
    clear a;refine dO 5 rfl λK m=>?_;go_simp;refine m _ _ (λ_=>n) ?_;clear m K;have a:=tkL [6,7];repeat (refine tkIS a ?_ rfl n ?_ ?_;rotate_left;intro w' h;go_simp;rfl;(try go_simp);replace a:=tkO a)
    clear a;refine tfS 8 rfl n ?_;(try go_simp)
    refine tfS 9 rfl n ?_;(try go_simp)
    refine tfS 10 rfl n ?_;(try go_simp)
    refine tfS 11 rfl n ?_;(try go_simp)
    refine tfS 12 rfl n ?_;(try go_simp)
    refine tfS 13 rfl n ?_;(try go_simp)
    refine tfS 14 rfl n ?_;(try go_simp)
    refine tfS 15 rfl n ?_;(try go_simp)
    refine tfS 16 rfl n ?_;(try go_simp)
    refine tfS 17 rfl n ?_;(try go_simp)
    refine tkS 18 ?_ rfl n ?_ ?_;rotate_left;intro w' h;go_simp;rfl;try go_simp
    refine dN ?_;go_wp2_with fail
    have f:a0b w1.heap.size w1 wr.drew.drew:=C.drew.drew;refine wT (λW=>a0b w1.heap.size w1 W) 999 ?_;have a:=tkL [0,1,2,3,4,5];repeat (refine tkIS a ?_ rfl f ?_ ?_;rotate_left;intro w' h;have z:=t w' h;go_simp;rfl;(try go_simp);replace a:=tkO a)
    clear a;refine dO 6 rfl λK m=>?_;go_simp;refine m _ _ (λ_=>f) ?_;clear m K;have a:=tkL [7,8];repeat (refine tkIS a ?_ rfl f ?_ ?_;rotate_left;intro w' h;go_simp;rfl;(try go_simp);replace a:=tkO a)
    clear a;refine tfS 9 rfl f ?_;(try go_simp)
    refine tfS 10 rfl f ?_;(try go_simp)
    refine tfS 11 rfl f ?_;(try go_simp)
    refine tfS 12 rfl f ?_;(try go_simp)
    refine tfS 13 rfl f ?_;(try go_simp)
    refine tfS 14 rfl f ?_;(try go_simp)
    refine tfS 15 rfl f ?_;(try go_simp)
    refine tfS 16 rfl f ?_;(try go_simp)
    refine tfS 17 rfl f ?_;(try go_simp)
    refine tfS 18 rfl f ?_;(try go_simp)
    have a:=tkL [19,20,21];repeat (refine tkIS a ?_ rfl f ?_ ?_;rotate_left;intro w' h;go_simp;rfl;(try go_simp);replace a:=tkO a)
    clear a;refine dN ?_;go_wp2_with fail
    go_ret2;refine ⟨?_,Y.out.trans (f.mono (by have:=a3.out;omega))⟩;have R:findK d.ds (l,o)=none:=by have:=Z.out;rw [u.out,a0n (by rw [H.out];exact a0j _)] at this;exact this
    rw [R,u.out];rfl
theorem rH (F:Nat->Prop) (w:a0l) (p:Nat) (M v2 v3:a0h) (l:List (RK×VX)) (d:ar) (h:ek F w p M v2 v3 l d) (k:RK):
 Calls a0i 86 #[.pointer (some ⟨p,0,none⟩),recK k] w λe w'=>e= .returned (.tuple #[.int .i64 (placeK ltRK l k), .bool (findK l k).isSome])/\a0b w.heap.size w w':=by
 have av:l.length<=5000:=h.lx;have a0:=a0a (ez aL h.sx k);have ao:Hid (∀i (h2:i<l.length),i<placeK ltRK l k->ltRK l[i].1 k=true):=λi h2 hi=>kM l k i hi h2;have al:Hid (∀h:placeK ltRK l k<l.length,ltRK l[placeK ltRK l k].1 k=false):=λh=>kN l k h;have a7:=gc (lt:=ltRK) l k;obtain ⟨m,r⟩:=k;obtain ⟨w1,C⟩:∃w1,w.alloc (.cells #[.int .i64 m, .int .i64 r] 36)=w1:=⟨_,rfl⟩;have R:a0b w.heap.size w w1:=by rw [<- C];exact (a0k _ w).alloc (a0j _) _
 have n:=a0c w (.cells #[.int .i64 m, .int .i64 r] 36);rw [C] at n;have HK:=a0a n;have H:=a0a (h.below R);have Z:=a0a R;have ac:w1.heap.size=w.heap.size+1:=by rw [<- C];simp
 have a4:=a0a ac;have au:=a0a C;obtain ⟨va,Y,hv⟩:=aK h.vs;have a3:Hid (w1.ownsRow 0 64 6 M l.length (l.flatMap verCells)):=H.vs
 have P:Hid (∀W,a0b w1.heap.size w1 W->W.cell? ⟨p,0,none⟩=some M/\W.cell? ⟨w.heap.size,0,none⟩=some (.int .i64 m)/\W.cell? ⟨w.heap.size,1,none⟩=some (.int .i64 r)):=λW y=>
  ⟨(aa ((y.block _ (H.out.lt p H.out.fp)).trans H.out.blk) 0).trans rfl,(aa ((y.block _ (by omega)).trans n) 0).trans rfl,(aa ((y.block _ (by omega)).trans n) 1).trans rfl⟩
 obtain ⟨q,X⟩:∃q,placeK ltRK l (m,r)=q:=⟨_,rfl⟩;rw [X] at a7;have x:=a0a X;obtain ⟨N,J⟩:∃N,l.length=N:=⟨_,rfl⟩;rw [J] at av a7;have I:=a0a J;have a9:M= .slice va N Y:=by rw [<- J];exact hv
 rw [a9] at a3 P;clear h R n ac C hv X J a9;unfold recK;dsimp only;go_enter Tryz.func86,Tryz.ntmps86;go_wp2_with fail
 rw [au.out];go_loopw [6] (λj wr=>∃i:Nat,j= .int .i64 i/\i<=q/\Hid (a0b w1.heap.size w1 wr)) (λj _=>N - (intOf j).toNat)
 case atStart=>exact ⟨0,rfl,Nat.zero_le _,a0k _ _⟩
 case round=>
  obtain ⟨i,rfl,hi,D⟩:=hrel;by_cases hlt:i<N
  · have V:i<l.length:=by rw [I.out];exact hlt
    have a8:=a3.out;rw [<- I.out] at a8;obtain ⟨g,c,he,hg,L⟩:=eu (enc:=verCells) (λ_=>rfl) a8 i V;injection he with he1 he2 he3
    subst he1 he3;obtain ⟨e,B⟩:∃e,l[i]=e:=⟨_,rfl⟩;rw [B] at L;have E:Hid (i<q->ltRK e.1 (m,r)=true):=λU=>by rw [<- B];exact ao.out i V (by rw [x.out];exact U)
    have G:Hid (i=q->ltRK e.1 (m,r)=false):=λU=>by subst U;have h1:=al.out (by rw [x.out];exact V);simp only [x.out] at h1;rw [<- B];exact h1
    have ad:=a0a B;obtain ⟨⟨s,t⟩,em⟩:=e;have Q:=L 0 _ rfl;have c1:=L 1 _ rfl;rw [Nat.add_zero] at Q
    have u:Hid (∀W,a0b w1.heap.size w1 W->(W.cell? ⟨p,0,none⟩=some (.slice (some ⟨g,0,none⟩) N Y)/\W.cell? ⟨w.heap.size,0,none⟩=some (.int .i64 m)/\W.cell? ⟨w.heap.size,1,none⟩=some (.int .i64 r))/\W.cell? ⟨g,i * 6,none⟩=some (.int .i64 s)/\W.cell? ⟨g,i * 6+1,none⟩=some (.int .i64 t)):=λW y=>
     ⟨P W y,((aE y).1 g _ hg).trans Q,((aE y).1 g _ hg).trans c1⟩
    have HL:Hid (∀W,Calls a0i 25 #[.agg #[.int .i64 s, .int .i64 t], .agg #[.int .i64 m, .int .i64 r]] W λe w'=>e= .returned (.bool (ltRK (s,t) (m,r)))/\a0b W.heap.size W w'):=λW=>iK (s,t) (m,r) W;have ay:(i:Int)<(N:Int):=by omega
    have o:a0b w1.heap.size w1 wr.drew:=D.drew;have ax:=D.size;dsimp only at E G;generalize hltv:ltRK (s,t) (m,r)=b at *;clear L Q c1 hltv B;go_wp2_with fail
    refine wT (λW=>a0b w1.heap.size w1 W) 999 ?_;have a:=tkL [0,1,2,3,4];repeat (refine tkIS a ?_ rfl o ?_ ?_;rotate_left;intro w' h;have A:=u w' h;go_simp;rfl;(try go_simp);replace a:=tkO a)
    clear a;refine dO 5 rfl λK n=>?_;go_simp;refine n _ _ (λ_=>o) ?_;clear n K;have a:=tkL [6,7,8,9,10,11,12,13,14,15,16];repeat (refine tkIS a ?_ rfl o ?_ ?_;rotate_left;intro w' h;have A:=u w' h;go_simp;rfl;(try go_simp);replace a:=tkO a)
    clear a;refine dB 17 rfl λK n=>?_;go_simp;go_at_call 25;refine (HL _).mono ?_;rintro e w3 ⟨rfl,a5⟩;have f:a0b w1.heap.size w1 w3:=o.trans (a5.mono ax);refine n _ _ (λ_=>f) ?_;clear n K;refine tkS 18 ?_ rfl f ?_ ?_;rotate_left;intro w' h;go_simp;rfl;try go_simp
    refine dN ?_;have O:=a0a f;clear f o a5;cases b
    · have a6:i=q:=by
       rcases a0g i q with h|h
       · have:=E h;cases this
       · omega
      subst a6;clear E G;go_wp2_with fail
      have f:a0b w1.heap.size w1 w3.drew:=O.drew;refine wT (λW=>a0b w1.heap.size w1 W) 999 ?_;have a:=tkL [0,1,2,3,4,5];repeat (refine tkIS a ?_ rfl f ?_ ?_;rotate_left;intro w' h;have A:=u w' h;go_simp;rfl;(try go_simp);replace a:=tkO a)
      clear a;refine dO 6 rfl λK n=>?_;go_simp;refine n _ _ (λ_=>f) ?_;clear n K;have a:=tkL [7,8,9,10,11,12,13,14,15,16,17];repeat (refine tkIS a ?_ rfl f ?_ ?_;rotate_left;intro w' h;have A:=u w' h;go_simp;rfl;(try go_simp);replace a:=tkO a)
      clear a;refine bT (i:=18) (v:= .bool (decide (s=m)&&decide (t=r))) rfl (by kernel_rfl) (by kernel_rfl) (by kernel_rfl) (by rfl) (λ_ _ _ h=>h) f (Or.inl ⟨by rfl,?_⟩) ?_;focus (intro w' h;by_cases g1:s=m<;>by_cases z:t=r<;>simp [g1,z]<;>go_simp<;>rfl)
      (try go_simp)
      have a:=tkL [19,20,21];repeat (refine tkIS a ?_ rfl f ?_ ?_;rotate_left;intro w' h;go_simp;rfl;(try go_simp);replace a:=tkO a)
      clear a;refine dN ?_;go_wp2_with fail
      go_ret2;refine ⟨?_,Z.out.trans (O.out.drew.mono (by have:=a4.out;omega))⟩;have T:findK l (m,r)=if (s,t)=(m,r) then some em else none:=by have:=a0.out;rw [x.out,a0m (by rw [I.out];exact hlt),ad.out] at this;exact this
      rw [T,x.out];by_cases hk:(s,t)=(m,r)
      · rw [if_pos hk];injection hk with g1 z
        rw [decide_eq_true g1,decide_eq_true z];rfl
      · rw [if_neg hk];have:(decide (s=m)&&decide (t=r))=false:=by
         rw [a0o,decide_eq_false_iff_not,decide_eq_false_iff_not];rcases Classical.em (s=m) with g|g
         · exact .inr λz=>hk (by rw [g,z])
         · exact .inl g
        rw [this];rfl
    · have a6:i<q:=by
       rcases a0g i q with h|h
       · exact h
       · have:=G.out (by omega);cases this
      clear E G;go_wp2_with fail
      go_roundw
      case rel=>exact ⟨i+1,by go_num,by omega,O⟩
      case measure=>simp [intOf];omega
  · obtain rfl:i=N:=by omega
    obtain rfl:q=i:=by omega
    have u:Hid (∀W,a0b w1.heap.size w1 W->(W.cell? ⟨p,0,none⟩=some (.slice va q Y)/\W.cell? ⟨w.heap.size,0,none⟩=some (.int .i64 m)/\W.cell? ⟨w.heap.size,1,none⟩=some (.int .i64 r))):=P.out;have o:a0b w1.heap.size w1 wr.drew:=D.drew;go_wp2_with fail
    refine wT (λW=>a0b w1.heap.size w1 W) 999 ?_;have a:=tkL [0,1,2,3,4];repeat (refine tkIS a ?_ rfl o ?_ ?_;rotate_left;intro w' h;have A:=u w' h;go_simp;rfl;(try go_simp);replace a:=tkO a)
    clear a;refine dO 5 rfl λK n=>?_;go_simp;refine n _ _ (λ_=>o) ?_;clear n K;have a:=tkL [6,7];repeat (refine tkIS a ?_ rfl o ?_ ?_;rotate_left;intro w' h;go_simp;rfl;(try go_simp);replace a:=tkO a)
    clear a;refine tfS 8 rfl o ?_;(try go_simp)
    refine tfS 9 rfl o ?_;(try go_simp)
    refine tfS 10 rfl o ?_;(try go_simp)
    refine tfS 11 rfl o ?_;(try go_simp)
    refine tfS 12 rfl o ?_;(try go_simp)
    refine tfS 13 rfl o ?_;(try go_simp)
    refine tfS 14 rfl o ?_;(try go_simp)
    refine tfS 15 rfl o ?_;(try go_simp)
    refine tfS 16 rfl o ?_;(try go_simp)
    refine tfS 17 rfl o ?_;(try go_simp)
    refine tkS 18 ?_ rfl o ?_ ?_;rotate_left;intro w' h;go_simp;rfl;try go_simp
    refine dN ?_;go_wp2_with fail
    have f:a0b w1.heap.size w1 wr.drew.drew:=D.drew.drew;refine wT (λW=>a0b w1.heap.size w1 W) 999 ?_;have a:=tkL [0,1,2,3,4,5];repeat (refine tkIS a ?_ rfl f ?_ ?_;rotate_left;intro w' h;have A:=u w' h;go_simp;rfl;(try go_simp);replace a:=tkO a)
    clear a;refine dO 6 rfl λK n=>?_;go_simp;refine n _ _ (λ_=>f) ?_;clear n K;have a:=tkL [7,8];repeat (refine tkIS a ?_ rfl f ?_ ?_;rotate_left;intro w' h;go_simp;rfl;(try go_simp);replace a:=tkO a)
    clear a;refine tfS 9 rfl f ?_;(try go_simp)
    refine tfS 10 rfl f ?_;(try go_simp)
    refine tfS 11 rfl f ?_;(try go_simp)
    refine tfS 12 rfl f ?_;(try go_simp)
    refine tfS 13 rfl f ?_;(try go_simp)
    refine tfS 14 rfl f ?_;(try go_simp)
    refine tfS 15 rfl f ?_;(try go_simp)
    refine tfS 16 rfl f ?_;(try go_simp)
    refine tfS 17 rfl f ?_;(try go_simp)
    refine tfS 18 rfl f ?_;(try go_simp)
    have a:=tkL [19,20,21];repeat (refine tkIS a ?_ rfl f ?_ ?_;rotate_left;intro w' h;go_simp;rfl;(try go_simp);replace a:=tkO a)
    clear a;refine dN ?_;go_wp2_with fail
    go_ret2;refine ⟨?_,Z.out.trans (f.mono (by have:=a4.out;omega))⟩;have T:findK l (m,r)=none:=by have:=a0.out;rw [x.out,a0n (by rw [I.out];exact a0j _)] at this;exact this
    rw [T,x.out];rfl
end
end Go.Proofs.YtjcimanddakkaaaGreatDoor
