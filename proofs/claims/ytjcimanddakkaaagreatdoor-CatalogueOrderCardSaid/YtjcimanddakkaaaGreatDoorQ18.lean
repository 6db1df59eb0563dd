/- Lemmas. -/
import Derived.Test.YtjcimanddakkaaaGreatDoorQ17
import Derived.Test.YtjcimanddakkaaaGreatDoorQ20
import Derived.Deep.CutBlock
set_option maxRecDepth 100000
set_option maxHeartbeats 8000000
namespace Go.Proofs.YtjcimanddakkaaaGreatDoor
open Go.Value renaming bool→fn,map→fs,slice→hK,int→J,pointer→k0
open _root_.Option renaming some→X,none→Y
open Go.IntKind renaming i64→U,u8→hN
open Go.Obj renaming cells→jj
open Go.Ending renaming returned→jn
open Go.Lib renaming hid→Z
open Tryz
open Go.World renaming alloc_heap_new→ka
open Go.Calls renaming mono→kb
open _root_.Nat renaming le_add_right→kc,le_refl→kn,eq_zero_or_pos→ks,le_trans→k4
open Go.RowKit.Below renaming heap_alloc→kd,heap_setCell→kk,refl→kq
open Go renaming World→ko,Value→ky,Calls→la
open Go.RowKit renaming Below→kt
open _root_.List renaming take_of_length_le→kx,length_append→kz,take_succ_eq_append_getElem→k3,length_take→k5,eq_nil_of_length_eq_zero→k6,filterMap_cons→k8
open _root_.Bool renaming and_eq_false_iff→k7
open Go.Value renaming bool→k9
section
open Go.RowKit Go.Maps Go.Shelf
def tG:ez prog 9 Bs where
 kv s:=S s
 kl s:= .string s
 ok s:=s.length<=maxLen
 keyed:=string_keyed underlying9
 key s h:=by
  unfold keyOf
  rw [underlying9]
  simp only [mapKey,underlying9]
  rw [if_pos (by show s.toArray.size<=maxLen;simpa using h)]
 inj a b h:=by
  injection h with h
  have:=congrArg (λx:ByteArray=>x.data.toList) h
  simpa using this
def aL (w:ko) (b:Nat) (a:List Bs):Prop:=∃l:List Bs,ak tG w b (l.map λs=>(s,fn true))/\(∀s,s∈l↔s∈a)/\l.length<=a.length
theorem aL.block {w w':ko} {b:Nat} {a:List Bs} (h:aL w b a) (d:w'.heap[b]? =w.heap[b]?):aL w' b a:=by
 obtain ⟨l,h1,c⟩:=h;exact ⟨l,h1.block d,c⟩
theorem aL.alloc {w:ko} {b:Nat} {a:List Bs} (h:aL w b a) (o:Obj):aL (w.alloc o) b a:=by
 obtain ⟨l,h1,c⟩:=h;exact ⟨l,h1.alloc o,c⟩
theorem dr (w:ko):aL (w.alloc (.map #[] 0)) w.heap.size []:=⟨[],ak.made w,by simp,kn _⟩
theorem aL.lt {w:ko} {b:Nat} {a:List Bs} (h:aL w b a):b<w.heap.size:=by obtain ⟨l,h1,_⟩:=h;exact h1.lt
def cf (lo:Nat) (w:ko) (v:ky) (r:az):Prop:=∃(b n c:Nat) (a:Option Addr),v= .agg #[fs (X b),S (aQ r.fields),hK a n c,J U (bH r.fields),J hN r.kind.toNat]/\lo<=b/\aL w b (booksR r.fields)/\
 w.ownsRow lo 9 1 (hK a n c) (bx r.fields).length ((bx r.fields).map λs=>S s)
theorem yI (l:List Bs) (k:Bs):∃a:List Bs,putL (l.map λs=>(s,k9 true)) k (fn true)=a.map (λs=>(s,k9 true))/\(∀s,s∈a↔s∈l∨s=k)/\a.length<=l.length+1:=by
 refine ⟨l.filter (λs=> !decide (s=k))++[k],?_,λs=>?_,by have:=List.length_filter_le (λs=> !decide (s=k)) l;simp;omega⟩
 · unfold putL cn;rw [List.filter_map,List.map_append];rfl
 · simp only [List.mem_append,List.mem_filter,List.mem_singleton,Bool.not_eq_true',decide_eq_false_iff_not];constructor
   · rintro (⟨h,_⟩|h)
     · exact .inl h
     · exact .inr h
   · rintro (h|h)
     · by_cases e:s=k
       · exact .inr e
       · exact .inl ⟨h,e⟩
     · exact .inr h
theorem mK (a:List af) (q:Nat) (h:q<a.length):booksR (a.take (q+1))=booksR (a.take q)++qC a[q]:=by
 unfold booksR;rw [k3 h,List.flatMap_append];simp
def bookS (T:Bs) (a:List cB):List Bs:=if T=eu then a.filterMap λs=>if s.code=97 then isbnR s.text else Y else []
theorem mM (f:af):qC f=bookS f.tag f.subs:=rfl
theorem mL (T:Bs) (a:List cB) (j:Nat) (h:j<a.length):bookS T (a.take (j+1))=bookS T (a.take j)++(if T=eu/\a[j].code=97 then (isbnR a[j].text).toList else []):=by
 unfold bookS;rw [k3 h,List.filterMap_append];by_cases hT:T=eu
 · simp only [hT,true_and];congr 1
   by_cases hc:a[j].code=97
   · rw [if_pos hc,k8,if_pos hc];cases isbnR a[j].text<;>rfl
   · rw [if_neg hc,k8,if_neg hc];rfl
 · simp [hT]
theorem kp (T:Bs) (a:List cB):(bookS T a).length<=a.length:=by
 unfold bookS;split
 · exact List.length_filterMap_le _ _
 · simp
theorem xV (a:List af) (h:∀f∈a,f.subs.length<=1000000):(booksR a).length<=a.length * 1000000:=by
 induction a with
 |nil=>simp [booksR]
 |cons f a ih=> have h1:=h f List.mem_cons_self;have b:=ih λg c=>h g (List.mem_cons_of_mem _ c);have d:=kp f.tag f.subs;unfold booksR at b ⊢;rw [List.flatMap_cons,kz,mM,List.length_cons,Nat.succ_mul];omega
theorem gv (a:List af) (q:Nat) (h:bR a):(booksR (a.take q)).length<=1000000000000:=by
 have h1:=xV (a.take q) λf c=>k4 (cM f) (h.2 f (List.mem_of_mem_take c));have b:(a.take q).length<=1000000:=by rw [k5];have:=h.1;omega
 have:=Nat.mul_le_mul_right 1000000 b;omega
theorem fk {s x:Bs} (h:isbnR s=X x):x.length<=13:=by
 unfold isbnR at h;dsimp only at h;split at h
 · rename_i a;injection h with h
   rw [<- h];simp only [kz,List.length_cons,List.length_nil,k5];omega
 · split at h
   · rename_i a;injection h with h
     rw [<- h];omega
   · cases h
structure OfS (lo:Nat) (w1:ko) (T B:Nat) (cells:Array ky) (W:ko) (bs:List Bs):Prop where
 b:kt lo w1 W
 t:W.heap[T]? =some (.cells cells 208 (0,0))
 k:aL W B bs
 lB:lo<=B
 lT:lo<=T
 sz:lo<=W.heap.size
theorem OfS.below {lo:Nat} {w1:ko} {T B:Nat} {e:Array ky} {W c:ko} {d:List Bs} (h:OfS lo w1 T B e W d) (a:Bw W c):OfS lo w1 T B e c d:=
 ⟨h.b.trans (a.mono h.sz),(a.block _ (ae h.t)).trans h.t,h.k.block (a.block _ h.k.lt),h.lB,h.lT,k4 h.sz a.size⟩
theorem OfS.ne {lo:Nat} {w1:ko} {T B:Nat} {b:Array ky} {W:ko} {a:List Bs} (h:OfS lo w1 T B b W a):B≠T:=by
 obtain ⟨l,h1,_⟩:=h.k;exact aj h1 h.t
theorem OfS.put {lo:Nat} {w1:ko} {T B:Nat} {d:Array ky} {W a:ko} {e cs:List Bs} (h:OfS lo w1 T B d W e) (c:aw B W a) (f:aL a B cs):OfS lo w1 T B d a cs:=
 ⟨h.b.trans (c.below h.lB),(c.block _ (Ne.symm h.ne)).trans h.t,f,h.lB,h.lT,by rw [c.size];exact h.sz⟩
theorem OfS.same {lo:Nat} {w1:ko} {T B:Nat} {b:Array ky} {W:ko} {a cs:List Bs} (h:OfS lo w1 T B b W a) (e:cs=a):OfS lo w1 T B b W cs:=e ▸ h
theorem nV {W:ko} {b B t:Nat} {cs:Array ky} {a:List Bs} (d:aL W B a) (c:W.heap[b]? =X (jj cs t (0,0))):b≠B:=by
 obtain ⟨l,h1,_⟩:=d;exact Ne.symm (aj h1 c)
theorem ew {w1 W:ko} {T B lo:Nat} {j k l m n a b c d e:ky} (h:W.heap[T]? =X (jj #[j,k,l,m,n] 208 (0,0))/\lo<=T) (g:aL W B []/\lo<=B) (p:kt lo w1 W) (f:ko)
 (o:f=((((W.setCell ⟨T,0,Y⟩ a).setCell ⟨T,1,Y⟩ b).setCell ⟨T,2,Y⟩ c).setCell ⟨T,3,Y⟩ d).setCell ⟨T,4,Y⟩ e):
 f.heap[T]? =X (jj #[a,b,c,d,e] 208 (0,0))/\aL f B []/\(lo<=B/\lo<=T)/\kt lo w1 f:=by
 subst o;have i:aw T W (((((W.setCell ⟨T,0,Y⟩ a).setCell ⟨T,1,Y⟩ b).setCell ⟨T,2,Y⟩ c).setCell ⟨T,3,Y⟩ d).setCell ⟨T,4,Y⟩ e):=(((((aw.refl T W).setCell 0 a).setCell 1 b).setCell 2 c).setCell 3 d).setCell 4 e;have q:B≠T:=Ne.symm (nV g.1 h.1);exact ⟨(ap (ap (ap (ap (ap h.1 0 a) 1 b) 2 c) 3 d) 4 e).trans rfl,g.1.block (i.block _ q),⟨g.2,h.2⟩,p.trans (i.below h.2)⟩
theorem Cp {w w1 wr u j:ko} {T B:Nat} {A:Array ky} {k l:UInt8} {i:List af} {n:Bs} {r:Option Addr} {t:Nat} (h:OfS (w.heap.size+2) w1 T B A wr (booksR i)) (v:Bw wr j)
 (o:j.ownsRow u.heap.size 9 1 (.slice r (be n).length t) (be n).length ((be n).map λs=>S s)) (E:bx i=be n) (G:w.heap.size+2<=B/\w.heap.size+2<=T) (x:Bw w wr) (F:T<u.heap.size/\w.heap.size+2<=u.heap.size)
 (W:ko) (a b c d e f:ky) (D:W=((((((j.setCell ⟨T,2,Y⟩ a).setCell ⟨w.heap.size+1,0,Y⟩ b).setCell ⟨w.heap.size+1,1,Y⟩ c).setCell ⟨w.heap.size+1,2,Y⟩ d).setCell ⟨w.heap.size+1,3,Y⟩ e).setCell ⟨w.heap.size+1,4,Y⟩ f)):
 cf w.heap.size W (.agg #[fs (X B),S (aQ i), .slice r (be n).length t,J U (bH i),J hN k.toNat]) ⟨k,l,i⟩/\Bw w W:=by
 subst D;have z:∀q,q≠T->q≠w.heap.size+1->((((((j.setCell ⟨T,2,Y⟩ a).setCell ⟨w.heap.size+1,0,Y⟩ b).setCell ⟨w.heap.size+1,1,Y⟩ c).setCell ⟨w.heap.size+1,2,Y⟩ d).setCell ⟨w.heap.size+1,3,Y⟩ e).setCell ⟨w.heap.size+1,4,Y⟩ f).heap[q]? =j.heap[q]? :=λq h1 m=>by rw [kk _ _ _ _ m,kk _ _ _ _ m,kk _ _ _ _ m,kk _ _ _ _ m,kk _ _ _ _ m,kk _ _ _ _ h1]
 refine ⟨⟨B,_,t,r,rfl,by omega,?_,?_⟩,?_⟩
 · exact (h.k.block (v.block _ h.k.lt)).block (z B h.ne (by omega))
 · show World.ownsRow _ _ _ _ _ (bx i).length _;rw [E];refine bz (ah o λg y=>z g ?_ ?_) (by omega)
   · have:=(o.lt g y).1;omega
   · have:=(o.lt g y).1;omega
 · have C:Bw w j:=x.trans (v.mono x.size);exact (((((C.setCell (p:=⟨T,2,Y⟩) (by simp;omega) _).setCell (p:=⟨w.heap.size+1,0,Y⟩) (by simp) _).setCell (p:=⟨w.heap.size+1,1,Y⟩) (by simp) _).setCell (p:=⟨w.heap.size+1,2,Y⟩) (by simp) _).setCell (p:=⟨w.heap.size+1,3,Y⟩) (by simp) _).setCell (p:=⟨w.heap.size+1,4,Y⟩) (by simp) _
theorem Cq (k l:UInt8) (x:ky) (r:List af) (w:ko) (hs:ai 0 w.heap.size w x r) (L:bR r):
 la prog 129 #[.agg #[J hN k.toNat,J hN l.toNat,x]] w λe w'=>∃v,e=jn v/\cf w.heap.size w' v ⟨k,l,r⟩/\Bw w w':=by
 obtain ⟨w1,b7⟩:=Qe ((w.alloc (jj #[J hN k.toNat,J hN l.toNat,x] 62)).alloc (jj #[fs Y,S [],hK Y 0 0,J U 0,J hN 0] 208));have hu:(w.alloc (jj #[J hN k.toNat,J hN l.toNat,x] 62)).heap.size=w.heap.size+1:=by simp
 have aS:Bw w w1:=by rw [<- b7];exact ((kq _ w).alloc (kn _) _).alloc (by simp) _
 have hR:w1.heap[w.heap.size]? =some (jj #[J hN k.toNat,J hN l.toNat,x] 62 (0,0)):=by rw [<- b7,kd _ _ _ (by simp)];exact ka w _
 have hZ:w1.heap[w.heap.size+1]? =some (jj #[fs Y,S [],hK Y 0 0,J U 0,J hN 0] 208 (0,0)):=by rw [<- b7, <- hu];exact ka (w.alloc _) _
 have hw:w1.heap.size=w.heap.size+2:=by rw [<- b7];simp
 have ee:Hid (∀W,Bw w W->ai 0 W.heap.size W x r):=λW D=>(fO hs (kn _) D).mono (kn _) D.size;have hV:Hid (∀W,Bw w W->ai 0 w.heap.size W x r):=λW D=>hs.kept (λg _ hg=>D.block g hg);have HT:Hid (∀W,Bw w W->la prog 178 #[.agg #[J hN k.toNat,J hN l.toNat,x]] W λe w'=>e=jn (S (aQ r))/\Bw W w'):=λW D=>nI k l x r W (ee W D) L;have HY:Hid (∀W,Bw w W->la prog 179 #[.agg #[J hN k.toNat,J hN l.toNat,x]] W λe w'=>e=jn (J U (bH r))/\Bw W w'):=λW D=>ya k l x r W (ee W D) L
 have HF:Hid (∀W,Bw w W->la prog 181 #[.agg #[J hN k.toNat,J hN l.toNat,x],S [49,48,48]] W λe w'=>(∃v,e=jn (.tuple #[v,fn (firstF r [49,48,48]).isSome])/\∃d,v= .agg #[S ((firstF r [49,48,48]).getD zeroF).tag,S ((firstF r [49,48,48]).getD zeroF).ind,S ((firstF r [49,48,48]).getD zeroF).data,d]/\aD 0 W.heap.size w' d ((firstF r [49,48,48]).getD zeroF).subs)/\Bw W w'):=λW D=>
  oy k l x r [49,48,48] W (ee W D) L.1
 have ay:Hid (((firstF r [49,48,48]).getD zeroF).subs.length<=1000000/\(∀s∈((firstF r [49,48,48]).getD zeroF).subs,s.text.length<=1000000)/\(textF (firstF r [49,48,48]) [97]).length<=1000000):=by
  refine ⟨?_,?_,eN L _ _⟩
  · cases h:firstF r [49,48,48] with
    |none=>simp [zeroF]
    |some f=>exact k4 (cM f) (L.2 f (ix h))
  · cases h:firstF r [49,48,48] with
    |none=>simp [zeroF]
    |some f=>exact λs hs=>lM (L.2 f (ix h)) hs
 have gx:=Z L;have fy:Hid (bx r=be (textF (firstF r [49,48,48]) [97])):=rfl;obtain ⟨a0,c0,rfl⟩:=hs.shape;have i2:=Z b7;have F:=Z aS;have HR:=Z hR;have HZ:=Z hZ;have y:=Z hw;have iP:=L.1;clear hs L b7 aS hR hZ hw hu;go_enter func129,ntmps129;go_upto_region 1 with fail
 rw [i2.o];obtain ⟨r0,r1,r2⟩:w1.cell? ⟨w.heap.size,0,Y⟩=some (J hN k.toNat)/\w1.cell? ⟨w.heap.size,1,Y⟩=some (J hN l.toNat)/\w1.cell? ⟨w.heap.size,2,Y⟩=some (hK a0 r.length c0):=⟨(aa HR.o 0).trans rfl,(aa HR.o 1).trans rfl,(aa HR.o 2).trans rfl⟩;go_cut [3] (λt wx=>∃T B:Nat,t=k0 (some ⟨T,0,Y⟩)/\Hid (wx.heap[T]? =some (jj #[fs (some B),S (aQ r),hK Y 0 0,J U (bH r),J hN k.toNat] 208 (0,0)))/\Hid (aL wx B [])/\Hid (w.heap.size+2<=B/\w.heap.size+2<=T)/\Hid (kt (w.heap.size+2) w1 wx))
 case first=>
  have a1:Hid (kt (w.heap.size+2) w1 w1.drew):=(kq _ w1).drew
  have HC:Hid (∀W,kt (w.heap.size+2) w1 W->W.cell? ⟨w.heap.size,0,Y⟩=some (J hN k.toNat)/\W.cell? ⟨w.heap.size,1,Y⟩=some (J hN l.toNat)/\W.cell? ⟨w.heap.size,2,Y⟩=some (hK a0 r.length c0)):=λW D=>
   ⟨(aa ((D.block _ (by omega)).trans HR.o) 0).trans rfl,(aa ((D.block _ (by omega)).trans HR.o) 1).trans rfl,(aa ((D.block _ (by omega)).trans HR.o) 2).trans rfl⟩
  clear r0 r1 r2;refine wT (λW=>kt (w.heap.size+2) w1 W) 999 ?_;refine Qd [1,3,5,6] a1.o HC ?_;obtain ⟨H,hj⟩:=Qe w1.drew;rw [hj] at a1 ⊢;clear hj;have iQ:= @run_makeMap prog;refine mQ (i:=0) (j:=2) (k:=8) rfl rfl rfl (by kernel_rfl) rfl rfl rfl (λK o=>?_) (λK o=>?_) (λK o=>?_)
  · skip;go_simp;have bb:Hid (aL (H.alloc (.map #[] 0)) H.heap.size []/\w.heap.size+2<=H.heap.size):=⟨dr _,(by have:=y.o;have:=a1.o.size;omega)⟩;have ac:Hid (kt (w.heap.size+2) w1 (H.alloc (.map #[] 0))):=a1.o.alloc (by have:=y.o;have:=a1.o.size;omega) _;refine o _ _ (λ_=>ac.o) ?_;clear o K;generalize H.alloc (.map #[] 0)=W0 at *;refine cH (i:=2) (j:=8) rfl rfl (by kernel_rfl) rfl rfl (λK o=>?_) (λK o=>?_)
    · skip;go_simp;go_at_call 178;refine kb (HT _ (F.trans (ac.mono (kc _ _)))) ?_;rintro e W1 ⟨rfl,aS⟩;have ad:=Z (btr ac.o aS (by have:=y.o;have:=ac.o.size;omega));have bc:=Z (⟨bb.1.block (aS.block _ bb.1.lt),bb.2⟩:aL W1 _ []/\_);clear aS;refine o _ _ (λ_=>ad.o) ?_;clear o K;refine cH (i:=4) (j:=8) rfl rfl (by kernel_rfl) rfl rfl (λK o=>?_) (λK o=>?_)
      · skip;go_simp;go_at_call 179;refine kb (HY _ (F.trans (ad.mono (kc _ _)))) ?_;rintro e W2 ⟨rfl,ch⟩;have bA:=Z (btr ad.o ch (by have:=y.o;have:=ad.o.size;omega));have g9:=Z (⟨bc.1.block (ch.block _ bc.1.lt),bc.2⟩:aL W2 _ []/\_);clear ch;refine o _ _ (λ_=>bA.o) ?_;clear o K;refine Qc [7] bA.o ?_
        refine Dp 8 λK o=>?_;go_simp;have h3:Hid ((W2.alloc (jj #[fs Y,S [],hK Y 0 0,J U 0,J hN 0] 208)).heap[W2.heap.size]? =some (jj #[fs Y,S [],hK Y 0 0,J U 0,J hN 0] 208 (0,0))/\w.heap.size+2<=W2.heap.size):=⟨ka _ _,(by have:=y.o;have:=bA.o.size;omega)⟩;have gf:Hid (kt (w.heap.size+2) w1 (W2.alloc (jj #[fs Y,S [],hK Y 0 0,J U 0,J hN 0] 208))):=bA.o.alloc (by have:=y.o;have:=bA.o.size;omega) _;have di:=Z (⟨g9.1.alloc _,g9.2⟩:aL (W2.alloc (jj #[fs Y,S [],hK Y 0 0,J U 0,J hN 0] 208)) _ []/\_);refine o _ _ (λ_=>gf.o) ?_;clear o K;generalize W2.alloc (jj #[fs Y,S [],hK Y 0 0,J U 0,J hN 0] 208)=W3 at *;have m:=h3.1;have f0:=ab m 0;have f1:=ab m 1;have O:=ab m 2;have f3:=ab m 3;have f4:=ab m 4;have Q:=(aa m 0).trans rfl;have V:=(aa m 1).trans rfl;have x2:=(aa m 2).trans rfl;have x3:=(aa m 3).trans rfl;have x4:=(aa m 4).trans rfl;clear m;refine Dp 9 λK o=>?_;go_simp;have z:=ew (a:=fs (some H.heap.size)) (b:=S (aQ r)) (c:=hK Y 0 0) (d:=J U (bH r)) (e:=J hN k.toNat) h3.o di.o gf.o _ rfl;refine o _ _ (λ_=>z.2.2.2) ?_;clear o K;refine dN ?_;have u:=Z z;clear z;go_wp2_with fail
        go_meet;exact ⟨_,_,rfl,u.1,u.2.1,u.2.2.1,u.2.2.2⟩
      · skip;go_simp;have a9:Hid ((W1.alloc (jj #[fs Y,S [],hK Y 0 0,J U 0,J hN 0] 208)).heap[W1.heap.size]? =some (jj #[fs Y,S [],hK Y 0 0,J U 0,J hN 0] 208 (0,0))/\w.heap.size+2<=W1.heap.size):=⟨ka _ _,(by have:=y.o;have:=ad.o.size;omega)⟩;have ca:Hid (kt (w.heap.size+2) w1 (W1.alloc (jj #[fs Y,S [],hK Y 0 0,J U 0,J hN 0] 208))):=ad.o.alloc (by have:=y.o;have:=ad.o.size;omega) _;have bp:=Z (⟨bc.1.alloc _,bc.2⟩:aL (W1.alloc (jj #[fs Y,S [],hK Y 0 0,J U 0,J hN 0] 208)) _ []/\_);refine o _ _ (λ_=>ca.o) ?_;clear o K;generalize W1.alloc (jj #[fs Y,S [],hK Y 0 0,J U 0,J hN 0] 208)=W4 at *;refine Dp 4 λK o=>?_;go_simp;go_at_call 179;refine kb (HY _ (F.trans (ca.mono (kc _ _)))) ?_;rintro e W5 ⟨rfl,aT⟩;have e7:=Z (btr ca.o aT (by have:=y.o;have:=ca.o.size;omega));have hO:=Z (⟨bp.1.block (aT.block _ bp.1.lt),bp.2⟩:aL W5 _ []/\_);have h6:=Z (⟨(aT.block _ (ae a9.1)).trans a9.1,a9.2⟩:W5.heap[_]? =_/\_);clear aT;refine o _ _ (λ_=>e7.o) ?_;clear o K;refine Qc [7] e7.o ?_
        have m:=h6.1;have f0:=ab m 0;have f1:=ab m 1;have O:=ab m 2;have f3:=ab m 3;have f4:=ab m 4;have Q:=(aa m 0).trans rfl;have V:=(aa m 1).trans rfl;have x2:=(aa m 2).trans rfl;have x3:=(aa m 3).trans rfl;have x4:=(aa m 4).trans rfl;clear m;refine Dp 9 λK o=>?_;go_simp;have z:=ew (a:=fs (some H.heap.size)) (b:=S (aQ r)) (c:=hK Y 0 0) (d:=J U (bH r)) (e:=J hN k.toNat) h6.o hO.o e7.o _ rfl;refine o _ _ (λ_=>z.2.2.2) ?_;clear o K;refine dN ?_;have u:=Z z;clear z;go_wp2_with fail
        go_meet;exact ⟨_,_,rfl,u.1,u.2.1,u.2.2.1,u.2.2.2⟩
    · skip;go_simp;have f5:Hid ((W0.alloc (jj #[fs Y,S [],hK Y 0 0,J U 0,J hN 0] 208)).heap[W0.heap.size]? =some (jj #[fs Y,S [],hK Y 0 0,J U 0,J hN 0] 208 (0,0))/\w.heap.size+2<=W0.heap.size):=⟨ka _ _,(by have:=y.o;have:=ac.o.size;omega)⟩;have cb:Hid (kt (w.heap.size+2) w1 (W0.alloc (jj #[fs Y,S [],hK Y 0 0,J U 0,J hN 0] 208))):=ac.o.alloc (by have:=y.o;have:=ac.o.size;omega) _;have dn:=Z (⟨bb.1.alloc _,bb.2⟩:aL (W0.alloc (jj #[fs Y,S [],hK Y 0 0,J U 0,J hN 0] 208)) _ []/\_);refine o _ _ (λ_=>cb.o) ?_;clear o K;generalize W0.alloc (jj #[fs Y,S [],hK Y 0 0,J U 0,J hN 0] 208)=W6 at *;refine Dp 2 λK o=>?_;go_simp;go_at_call 178;refine kb (HT _ (F.trans (cb.mono (kc _ _)))) ?_;rintro e W7 ⟨rfl,cv⟩;have cc:=Z (btr cb.o cv (by have:=y.o;have:=cb.o.size;omega));have dp:=Z (⟨dn.1.block (cv.block _ dn.1.lt),dn.2⟩:aL W7 _ []/\_);have f6:=Z (⟨(cv.block _ (ae f5.1)).trans f5.1,f5.2⟩:W7.heap[_]? =_/\_);clear cv;refine o _ _ (λ_=>cc.o) ?_;clear o K;refine Dp 4 λK o=>?_;go_simp;go_at_call 179;refine kb (HY _ (F.trans (cc.mono (kc _ _)))) ?_;rintro e W8 ⟨rfl,cx⟩;have e8:=Z (btr cc.o cx (by have:=y.o;have:=cc.o.size;omega));have hP:=Z (⟨dp.1.block (cx.block _ dp.1.lt),dp.2⟩:aL W8 _ []/\_);have h7:=Z (⟨(cx.block _ (ae f6.1)).trans f6.1,f6.2⟩:W8.heap[_]? =_/\_);clear cx;refine o _ _ (λ_=>e8.o) ?_;clear o K;refine Qc [7] e8.o ?_
      have m:=h7.1;have f0:=ab m 0;have f1:=ab m 1;have O:=ab m 2;have f3:=ab m 3;have f4:=ab m 4;have Q:=(aa m 0).trans rfl;have V:=(aa m 1).trans rfl;have x2:=(aa m 2).trans rfl;have x3:=(aa m 3).trans rfl;have x4:=(aa m 4).trans rfl;clear m;refine Dp 9 λK o=>?_;go_simp;have z:=ew (a:=fs (some H.heap.size)) (b:=S (aQ r)) (c:=hK Y 0 0) (d:=J U (bH r)) (e:=J hN k.toNat) h7.o hP.o e8.o _ rfl;refine o _ _ (λ_=>z.2.2.2) ?_;clear o K;refine dN ?_;have u:=Z z;clear z;go_wp2_with fail
      go_meet;exact ⟨_,_,rfl,u.1,u.2.1,u.2.2.1,u.2.2.2⟩
  · skip;go_simp;go_at_call 178;refine kb (HT _ (F.trans (a1.mono (kc _ _)))) ?_;rintro e N ⟨rfl,hn⟩;have a3:=Z (btr a1.o hn (by have:=y.o;have:=a1.o.size;omega));clear hn;refine o _ _ (λ_=>a3.o) ?_;clear o K;refine mQ (i:=0) (j:=4) (k:=8) rfl rfl rfl (by kernel_rfl) rfl rfl rfl (λK o=>?_) (λK o=>?_) (λK o=>?_)
    · skip;go_simp;have bk:Hid (aL (N.alloc (.map #[] 0)) N.heap.size []/\w.heap.size+2<=N.heap.size):=⟨dr _,(by have:=y.o;have:=a3.o.size;omega)⟩;have al:Hid (kt (w.heap.size+2) w1 (N.alloc (.map #[] 0))):=a3.o.alloc (by have:=y.o;have:=a3.o.size;omega) _;refine o _ _ (λ_=>al.o) ?_;clear o K;generalize N.alloc (.map #[] 0)=W10 at *;refine cH (i:=4) (j:=8) rfl rfl (by kernel_rfl) rfl rfl (λK o=>?_) (λK o=>?_)
      · skip;go_simp;go_at_call 179;refine kb (HY _ (F.trans (al.mono (kc _ _)))) ?_;rintro e aC ⟨rfl,f7⟩;have bt:=Z (btr al.o f7 (by have:=y.o;have:=al.o.size;omega));have g7:=Z (⟨bk.1.block (f7.block _ bk.1.lt),bk.2⟩:aL aC _ []/\_);clear f7;refine o _ _ (λ_=>bt.o) ?_;clear o K;refine Qc [7] bt.o ?_
        refine Dp 8 λK o=>?_;go_simp;have gy:Hid ((aC.alloc (jj #[fs Y,S [],hK Y 0 0,J U 0,J hN 0] 208)).heap[aC.heap.size]? =some (jj #[fs Y,S [],hK Y 0 0,J U 0,J hN 0] 208 (0,0))/\w.heap.size+2<=aC.heap.size):=⟨ka _ _,(by have:=y.o;have:=bt.o.size;omega)⟩;have gb:Hid (kt (w.heap.size+2) w1 (aC.alloc (jj #[fs Y,S [],hK Y 0 0,J U 0,J hN 0] 208))):=bt.o.alloc (by have:=y.o;have:=bt.o.size;omega) _;have hB:=Z (⟨g7.1.alloc _,g7.2⟩:aL (aC.alloc (jj #[fs Y,S [],hK Y 0 0,J U 0,J hN 0] 208)) _ []/\_);refine o _ _ (λ_=>gb.o) ?_;clear o K;generalize aC.alloc (jj #[fs Y,S [],hK Y 0 0,J U 0,J hN 0] 208)=W12 at *;have m:=gy.1;have f0:=ab m 0;have f1:=ab m 1;have O:=ab m 2;have f3:=ab m 3;have f4:=ab m 4;have Q:=(aa m 0).trans rfl;have V:=(aa m 1).trans rfl;have x2:=(aa m 2).trans rfl;have x3:=(aa m 3).trans rfl;have x4:=(aa m 4).trans rfl;clear m;refine Dp 9 λK o=>?_;go_simp;have z:=ew (a:=fs (some N.heap.size)) (b:=S (aQ r)) (c:=hK Y 0 0) (d:=J U (bH r)) (e:=J hN k.toNat) gy.o hB.o gb.o _ rfl;refine o _ _ (λ_=>z.2.2.2) ?_;clear o K;refine dN ?_;have u:=Z z;clear z;go_wp2_with fail
        go_meet;exact ⟨_,_,rfl,u.1,u.2.1,u.2.2.1,u.2.2.2⟩
      · skip;go_simp;have eg:Hid ((W10.alloc (jj #[fs Y,S [],hK Y 0 0,J U 0,J hN 0] 208)).heap[W10.heap.size]? =some (jj #[fs Y,S [],hK Y 0 0,J U 0,J hN 0] 208 (0,0))/\w.heap.size+2<=W10.heap.size):=⟨ka _ _,(by have:=y.o;have:=al.o.size;omega)⟩;have c1:Hid (kt (w.heap.size+2) w1 (W10.alloc (jj #[fs Y,S [],hK Y 0 0,J U 0,J hN 0] 208))):=al.o.alloc (by have:=y.o;have:=al.o.size;omega) _;have d6:=Z (⟨bk.1.alloc _,bk.2⟩:aL (W10.alloc (jj #[fs Y,S [],hK Y 0 0,J U 0,J hN 0] 208)) _ []/\_);refine o _ _ (λ_=>c1.o) ?_;clear o K;generalize W10.alloc (jj #[fs Y,S [],hK Y 0 0,J U 0,J hN 0] 208)=W13 at *;refine Dp 4 λK o=>?_;go_simp;go_at_call 179;refine kb (HY _ (F.trans (c1.mono (kc _ _)))) ?_;rintro e ha ⟨rfl,cg⟩;have ds:=Z (btr c1.o cg (by have:=y.o;have:=c1.o.size;omega));have hD:=Z (⟨d6.1.block (cg.block _ d6.1.lt),d6.2⟩:aL ha _ []/\_);have gz:=Z (⟨(cg.block _ (ae eg.1)).trans eg.1,eg.2⟩:ha.heap[_]? =_/\_);clear cg;refine o _ _ (λ_=>ds.o) ?_;clear o K;refine Qc [7] ds.o ?_
        have m:=gz.1;have f0:=ab m 0;have f1:=ab m 1;have O:=ab m 2;have f3:=ab m 3;have f4:=ab m 4;have Q:=(aa m 0).trans rfl;have V:=(aa m 1).trans rfl;have x2:=(aa m 2).trans rfl;have x3:=(aa m 3).trans rfl;have x4:=(aa m 4).trans rfl;clear m;refine Dp 9 λK o=>?_;go_simp;have z:=ew (a:=fs (some N.heap.size)) (b:=S (aQ r)) (c:=hK Y 0 0) (d:=J U (bH r)) (e:=J hN k.toNat) gz.o hD.o ds.o _ rfl;refine o _ _ (λ_=>z.2.2.2) ?_;clear o K;refine dN ?_;have u:=Z z;clear z;go_wp2_with fail
        go_meet;exact ⟨_,_,rfl,u.1,u.2.1,u.2.2.1,u.2.2.2⟩
    · skip;go_simp;go_at_call 179;refine kb (HY _ (F.trans (a3.mono (kc _ _)))) ?_;rintro e a2 ⟨rfl,hk⟩;have ao:=Z (btr a3.o hk (by have:=y.o;have:=a3.o.size;omega));clear hk;refine o _ _ (λ_=>ao.o) ?_;clear o K;refine cH (i:=0) (j:=8) rfl rfl (by kernel_rfl) rfl rfl (λK o=>?_) (λK o=>?_)
      · skip;go_simp;have g8:Hid (aL (a2.alloc (.map #[] 0)) a2.heap.size []/\w.heap.size+2<=a2.heap.size):=⟨dr _,(by have:=y.o;have:=ao.o.size;omega)⟩;have bw:Hid (kt (w.heap.size+2) w1 (a2.alloc (.map #[] 0))):=ao.o.alloc (by have:=y.o;have:=ao.o.size;omega) _;refine o _ _ (λ_=>bw.o) ?_;clear o K;generalize a2.alloc (.map #[] 0)=W16 at *;refine Qc [7] bw.o ?_
        refine Dp 8 λK o=>?_;go_simp;have gO:Hid ((W16.alloc (jj #[fs Y,S [],hK Y 0 0,J U 0,J hN 0] 208)).heap[W16.heap.size]? =some (jj #[fs Y,S [],hK Y 0 0,J U 0,J hN 0] 208 (0,0))/\w.heap.size+2<=W16.heap.size):=⟨ka _ _,(by have:=y.o;have:=bw.o.size;omega)⟩;have gc:Hid (kt (w.heap.size+2) w1 (W16.alloc (jj #[fs Y,S [],hK Y 0 0,J U 0,J hN 0] 208))):=bw.o.alloc (by have:=y.o;have:=bw.o.size;omega) _;have hE:=Z (⟨g8.1.alloc _,g8.2⟩:aL (W16.alloc (jj #[fs Y,S [],hK Y 0 0,J U 0,J hN 0] 208)) _ []/\_);refine o _ _ (λ_=>gc.o) ?_;clear o K;generalize W16.alloc (jj #[fs Y,S [],hK Y 0 0,J U 0,J hN 0] 208)=W17 at *;have m:=gO.1;have f0:=ab m 0;have f1:=ab m 1;have O:=ab m 2;have f3:=ab m 3;have f4:=ab m 4;have Q:=(aa m 0).trans rfl;have V:=(aa m 1).trans rfl;have x2:=(aa m 2).trans rfl;have x3:=(aa m 3).trans rfl;have x4:=(aa m 4).trans rfl;clear m;refine Dp 9 λK o=>?_;go_simp;have z:=ew (a:=fs (some a2.heap.size)) (b:=S (aQ r)) (c:=hK Y 0 0) (d:=J U (bH r)) (e:=J hN k.toNat) gO.o hE.o gc.o _ rfl;refine o _ _ (λ_=>z.2.2.2) ?_;clear o K;refine dN ?_;have u:=Z z;clear z;go_wp2_with fail
        go_meet;exact ⟨_,_,rfl,u.1,u.2.1,u.2.2.1,u.2.2.2⟩
      · skip;go_simp;have ej:Hid ((a2.alloc (jj #[fs Y,S [],hK Y 0 0,J U 0,J hN 0] 208)).heap[a2.heap.size]? =some (jj #[fs Y,S [],hK Y 0 0,J U 0,J hN 0] 208 (0,0))/\w.heap.size+2<=a2.heap.size):=⟨ka _ _,(by have:=y.o;have:=ao.o.size;omega)⟩;have c2:Hid (kt (w.heap.size+2) w1 (a2.alloc (jj #[fs Y,S [],hK Y 0 0,J U 0,J hN 0] 208))):=ao.o.alloc (by have:=y.o;have:=ao.o.size;omega) _;refine o _ _ (λ_=>c2.o) ?_;clear o K;generalize a2.alloc (jj #[fs Y,S [],hK Y 0 0,J U 0,J hN 0] 208)=W18 at *;refine Dp 0 λK o=>?_;go_simp;have hF:Hid (aL (W18.alloc (.map #[] 0)) W18.heap.size []/\w.heap.size+2<=W18.heap.size):=⟨dr _,(by have:=y.o;have:=c2.o.size;omega)⟩;have dx:Hid (kt (w.heap.size+2) w1 (W18.alloc (.map #[] 0))):=c2.o.alloc (by have:=y.o;have:=c2.o.size;omega) _;have gP:=Z (⟨(kd W18 (.map #[] 0) _ (ae ej.1)).trans ej.1,ej.2⟩:(W18.alloc (.map #[] 0)).heap[_]? =_/\_);refine o _ _ (λ_=>dx.o) ?_;clear o K;generalize W18.alloc (.map #[] 0)=W19 at *;refine Qc [7] dx.o ?_
        have m:=gP.1;have f0:=ab m 0;have f1:=ab m 1;have O:=ab m 2;have f3:=ab m 3;have f4:=ab m 4;have Q:=(aa m 0).trans rfl;have V:=(aa m 1).trans rfl;have x2:=(aa m 2).trans rfl;have x3:=(aa m 3).trans rfl;have x4:=(aa m 4).trans rfl;clear m;refine Dp 9 λK o=>?_;go_simp;have z:=ew (a:=fs (some W18.heap.size)) (b:=S (aQ r)) (c:=hK Y 0 0) (d:=J U (bH r)) (e:=J hN k.toNat) gP.o hF.o dx.o _ rfl;refine o _ _ (λ_=>z.2.2.2) ?_;clear o K;refine dN ?_;have u:=Z z;clear z;go_wp2_with fail
        go_meet;exact ⟨_,_,rfl,u.1,u.2.1,u.2.2.1,u.2.2.2⟩
    · skip;go_simp;have b3:Hid ((N.alloc (jj #[fs Y,S [],hK Y 0 0,J U 0,J hN 0] 208)).heap[N.heap.size]? =some (jj #[fs Y,S [],hK Y 0 0,J U 0,J hN 0] 208 (0,0))/\w.heap.size+2<=N.heap.size):=⟨ka _ _,(by have:=y.o;have:=a3.o.size;omega)⟩;have au:Hid (kt (w.heap.size+2) w1 (N.alloc (jj #[fs Y,S [],hK Y 0 0,J U 0,J hN 0] 208))):=a3.o.alloc (by have:=y.o;have:=a3.o.size;omega) _;refine o _ _ (λ_=>au.o) ?_;clear o K;generalize N.alloc (jj #[fs Y,S [],hK Y 0 0,J U 0,J hN 0] 208)=W20 at *;refine cH (i:=0) (j:=4) rfl rfl (by kernel_rfl) rfl rfl (λK o=>?_) (λK o=>?_)
      · skip;go_simp;have d7:Hid (aL (W20.alloc (.map #[] 0)) W20.heap.size []/\w.heap.size+2<=W20.heap.size):=⟨dr _,(by have:=y.o;have:=au.o.size;omega)⟩;have c3:Hid (kt (w.heap.size+2) w1 (W20.alloc (.map #[] 0))):=au.o.alloc (by have:=y.o;have:=au.o.size;omega) _;have em:=Z (⟨(kd W20 (.map #[] 0) _ (ae b3.1)).trans b3.1,b3.2⟩:(W20.alloc (.map #[] 0)).heap[_]? =_/\_);refine o _ _ (λ_=>c3.o) ?_;clear o K;generalize W20.alloc (.map #[] 0)=W21 at *;refine Dp 4 λK o=>?_;go_simp;go_at_call 179;refine kb (HY _ (F.trans (c3.mono (kc _ _)))) ?_;rintro e hc ⟨rfl,cl⟩;have dy:=Z (btr c3.o cl (by have:=y.o;have:=c3.o.size;omega));have hG:=Z (⟨d7.1.block (cl.block _ d7.1.lt),d7.2⟩:aL hc _ []/\_);have gQ:=Z (⟨(cl.block _ (ae em.1)).trans em.1,em.2⟩:hc.heap[_]? =_/\_);clear cl;refine o _ _ (λ_=>dy.o) ?_;clear o K;refine Qc [7] dy.o ?_
        have m:=gQ.1;have f0:=ab m 0;have f1:=ab m 1;have O:=ab m 2;have f3:=ab m 3;have f4:=ab m 4;have Q:=(aa m 0).trans rfl;have V:=(aa m 1).trans rfl;have x2:=(aa m 2).trans rfl;have x3:=(aa m 3).trans rfl;have x4:=(aa m 4).trans rfl;clear m;refine Dp 9 λK o=>?_;go_simp;have z:=ew (a:=fs (some W20.heap.size)) (b:=S (aQ r)) (c:=hK Y 0 0) (d:=J U (bH r)) (e:=J hN k.toNat) gQ.o hG.o dy.o _ rfl;refine o _ _ (λ_=>z.2.2.2) ?_;clear o K;refine dN ?_;have u:=Z z;clear z;go_wp2_with fail
        go_meet;exact ⟨_,_,rfl,u.1,u.2.1,u.2.2.1,u.2.2.2⟩
      · skip;go_simp;go_at_call 179;refine kb (HY _ (F.trans (au.mono (kc _ _)))) ?_;rintro e a5 ⟨rfl,f8⟩;have c4:=Z (btr au.o f8 (by have:=y.o;have:=au.o.size;omega));have eq:=Z (⟨(f8.block _ (ae b3.1)).trans b3.1,b3.2⟩:a5.heap[_]? =_/\_);clear f8;refine o _ _ (λ_=>c4.o) ?_;clear o K;refine Dp 0 λK o=>?_;go_simp;have hH:Hid (aL (a5.alloc (.map #[] 0)) a5.heap.size []/\w.heap.size+2<=a5.heap.size):=⟨dr _,(by have:=y.o;have:=c4.o.size;omega)⟩;have dz:Hid (kt (w.heap.size+2) w1 (a5.alloc (.map #[] 0))):=c4.o.alloc (by have:=y.o;have:=c4.o.size;omega) _;have h0:=Z (⟨(kd a5 (.map #[] 0) _ (ae eq.1)).trans eq.1,eq.2⟩:(a5.alloc (.map #[] 0)).heap[_]? =_/\_);refine o _ _ (λ_=>dz.o) ?_;clear o K;generalize a5.alloc (.map #[] 0)=W24 at *;refine Qc [7] dz.o ?_
        have m:=h0.1;have f0:=ab m 0;have f1:=ab m 1;have O:=ab m 2;have f3:=ab m 3;have f4:=ab m 4;have Q:=(aa m 0).trans rfl;have V:=(aa m 1).trans rfl;have x2:=(aa m 2).trans rfl;have x3:=(aa m 3).trans rfl;have x4:=(aa m 4).trans rfl;clear m;refine Dp 9 λK o=>?_;go_simp;have z:=ew (a:=fs (some a5.heap.size)) (b:=S (aQ r)) (c:=hK Y 0 0) (d:=J U (bH r)) (e:=J hN k.toNat) h0.o hH.o dz.o _ rfl;refine o _ _ (λ_=>z.2.2.2) ?_;clear o K;refine dN ?_;have u:=Z z;clear z;go_wp2_with fail
        go_meet;exact ⟨_,_,rfl,u.1,u.2.1,u.2.2.1,u.2.2.2⟩
  · skip;go_simp;have b4:Hid ((H.alloc (jj #[fs Y,S [],hK Y 0 0,J U 0,J hN 0] 208)).heap[H.heap.size]? =some (jj #[fs Y,S [],hK Y 0 0,J U 0,J hN 0] 208 (0,0))/\w.heap.size+2<=H.heap.size):=⟨ka _ _,(by have:=y.o;have:=a1.o.size;omega)⟩;have av:Hid (kt (w.heap.size+2) w1 (H.alloc (jj #[fs Y,S [],hK Y 0 0,J U 0,J hN 0] 208))):=a1.o.alloc (by have:=y.o;have:=a1.o.size;omega) _;refine o _ _ (λ_=>av.o) ?_;clear o K;generalize H.alloc (jj #[fs Y,S [],hK Y 0 0,J U 0,J hN 0] 208)=W25 at *;refine cH (i:=0) (j:=2) rfl rfl (by kernel_rfl) rfl rfl (λK o=>?_) (λK o=>?_)
    · skip;go_simp;have d8:Hid (aL (W25.alloc (.map #[] 0)) W25.heap.size []/\w.heap.size+2<=W25.heap.size):=⟨dr _,(by have:=y.o;have:=av.o.size;omega)⟩;have c5:Hid (kt (w.heap.size+2) w1 (W25.alloc (.map #[] 0))):=av.o.alloc (by have:=y.o;have:=av.o.size;omega) _;have er:=Z (⟨(kd W25 (.map #[] 0) _ (ae b4.1)).trans b4.1,b4.2⟩:(W25.alloc (.map #[] 0)).heap[_]? =_/\_);refine o _ _ (λ_=>c5.o) ?_;clear o K;generalize W25.alloc (.map #[] 0)=W26 at *;refine Dp 2 λK o=>?_;go_simp;go_at_call 178;refine kb (HT _ (F.trans (c5.mono (kc _ _)))) ?_;rintro e hd ⟨rfl,cm⟩;have c6:=Z (btr c5.o cm (by have:=y.o;have:=c5.o.size;omega));have d9:=Z (⟨d8.1.block (cm.block _ d8.1.lt),d8.2⟩:aL hd _ []/\_);have es:=Z (⟨(cm.block _ (ae er.1)).trans er.1,er.2⟩:hd.heap[_]? =_/\_);clear cm;refine o _ _ (λ_=>c6.o) ?_;clear o K;refine Dp 4 λK o=>?_;go_simp;go_at_call 179;refine kb (HY _ (F.trans (c6.mono (kc _ _)))) ?_;rintro e he ⟨rfl,cp⟩;have e4:=Z (btr c6.o cp (by have:=y.o;have:=c6.o.size;omega));have hJ:=Z (⟨d9.1.block (cp.block _ d9.1.lt),d9.2⟩:aL he _ []/\_);have h2:=Z (⟨(cp.block _ (ae es.1)).trans es.1,es.2⟩:he.heap[_]? =_/\_);clear cp;refine o _ _ (λ_=>e4.o) ?_;clear o K;refine Qc [7] e4.o ?_
      have m:=h2.1;have f0:=ab m 0;have f1:=ab m 1;have O:=ab m 2;have f3:=ab m 3;have f4:=ab m 4;have Q:=(aa m 0).trans rfl;have V:=(aa m 1).trans rfl;have x2:=(aa m 2).trans rfl;have x3:=(aa m 3).trans rfl;have x4:=(aa m 4).trans rfl;clear m;refine Dp 9 λK o=>?_;go_simp;have z:=ew (a:=fs (some W25.heap.size)) (b:=S (aQ r)) (c:=hK Y 0 0) (d:=J U (bH r)) (e:=J hN k.toNat) h2.o hJ.o e4.o _ rfl;refine o _ _ (λ_=>z.2.2.2) ?_;clear o K;refine dN ?_;have u:=Z z;clear z;go_wp2_with fail
      go_meet;exact ⟨_,_,rfl,u.1,u.2.1,u.2.2.1,u.2.2.2⟩
    · skip;go_simp;go_at_call 178;refine kb (HT _ (F.trans (av.mono (kc _ _)))) ?_;rintro e a6 ⟨rfl,f9⟩;have ax:=Z (btr av.o f9 (by have:=y.o;have:=av.o.size;omega));have b5:=Z (⟨(f9.block _ (ae b4.1)).trans b4.1,b4.2⟩:a6.heap[_]? =_/\_);clear f9;refine o _ _ (λ_=>ax.o) ?_;clear o K;refine cH (i:=0) (j:=4) rfl rfl (by kernel_rfl) rfl rfl (λK o=>?_) (λK o=>?_)
      · skip;go_simp;have dk:Hid (aL (a6.alloc (.map #[] 0)) a6.heap.size []/\w.heap.size+2<=a6.heap.size):=⟨dr _,(by have:=y.o;have:=ax.o.size;omega)⟩;have c7:Hid (kt (w.heap.size+2) w1 (a6.alloc (.map #[] 0))):=ax.o.alloc (by have:=y.o;have:=ax.o.size;omega) _;have ex:=Z (⟨(kd a6 (.map #[] 0) _ (ae b5.1)).trans b5.1,b5.2⟩:(a6.alloc (.map #[] 0)).heap[_]? =_/\_);refine o _ _ (λ_=>c7.o) ?_;clear o K;generalize a6.alloc (.map #[] 0)=W30 at *;refine Dp 4 λK o=>?_;go_simp;go_at_call 179;refine kb (HY _ (F.trans (c7.mono (kc _ _)))) ?_;rintro e hf ⟨rfl,cq⟩;have e5:=Z (btr c7.o cq (by have:=y.o;have:=c7.o.size;omega));have hL:=Z (⟨dk.1.block (cq.block _ dk.1.lt),dk.2⟩:aL hf _ []/\_);have h4:=Z (⟨(cq.block _ (ae ex.1)).trans ex.1,ex.2⟩:hf.heap[_]? =_/\_);clear cq;refine o _ _ (λ_=>e5.o) ?_;clear o K;refine Qc [7] e5.o ?_
        have m:=h4.1;have f0:=ab m 0;have f1:=ab m 1;have O:=ab m 2;have f3:=ab m 3;have f4:=ab m 4;have Q:=(aa m 0).trans rfl;have V:=(aa m 1).trans rfl;have x2:=(aa m 2).trans rfl;have x3:=(aa m 3).trans rfl;have x4:=(aa m 4).trans rfl;clear m;refine Dp 9 λK o=>?_;go_simp;have z:=ew (a:=fs (some a6.heap.size)) (b:=S (aQ r)) (c:=hK Y 0 0) (d:=J U (bH r)) (e:=J hN k.toNat) h4.o hL.o e5.o _ rfl;refine o _ _ (λ_=>z.2.2.2) ?_;clear o K;refine dN ?_;have u:=Z z;clear z;go_wp2_with fail
        go_meet;exact ⟨_,_,rfl,u.1,u.2.1,u.2.2.1,u.2.2.2⟩
      · skip;go_simp;go_at_call 179;refine kb (HY _ (F.trans (ax.mono (kc _ _)))) ?_;rintro e a7 ⟨rfl,fc⟩;have c9:=Z (btr ax.o fc (by have:=y.o;have:=ax.o.size;omega));have eQ:=Z (⟨(fc.block _ (ae b5.1)).trans b5.1,b5.2⟩:a7.heap[_]? =_/\_);clear fc;refine o _ _ (λ_=>c9.o) ?_;clear o K;refine Dp 0 λK o=>?_;go_simp;have hM:Hid (aL (a7.alloc (.map #[] 0)) a7.heap.size []/\w.heap.size+2<=a7.heap.size):=⟨dr _,(by have:=y.o;have:=c9.o.size;omega)⟩;have e6:Hid (kt (w.heap.size+2) w1 (a7.alloc (.map #[] 0))):=c9.o.alloc (by have:=y.o;have:=c9.o.size;omega) _;have h5:=Z (⟨(kd a7 (.map #[] 0) _ (ae eQ.1)).trans eQ.1,eQ.2⟩:(a7.alloc (.map #[] 0)).heap[_]? =_/\_);refine o _ _ (λ_=>e6.o) ?_;clear o K;generalize a7.alloc (.map #[] 0)=W33 at *;refine Qc [7] e6.o ?_
        have m:=h5.1;have f0:=ab m 0;have f1:=ab m 1;have O:=ab m 2;have f3:=ab m 3;have f4:=ab m 4;have Q:=(aa m 0).trans rfl;have V:=(aa m 1).trans rfl;have x2:=(aa m 2).trans rfl;have x3:=(aa m 3).trans rfl;have x4:=(aa m 4).trans rfl;clear m;refine Dp 9 λK o=>?_;go_simp;have z:=ew (a:=fs (some a7.heap.size)) (b:=S (aQ r)) (c:=hK Y 0 0) (d:=J U (bH r)) (e:=J hN k.toNat) h5.o hM.o e6.o _ rfl;refine o _ _ (λ_=>z.2.2.2) ?_;clear o K;refine dN ?_;have u:=Z z;clear z;go_wp2_with fail
        go_meet;exact ⟨_,_,rfl,u.1,u.2.1,u.2.2.1,u.2.2.2⟩
 case rest=>
  obtain ⟨T,B,rfl,h8,fz,b6,bO⟩:=hcut;have fr:OfS (w.heap.size+2) w1 T B #[fs (some B),S (aQ r),hK Y 0 0,J U (bH r),J hN k.toNat] wc []:=⟨bO.o,h8.o,fz.o,b6.o.1,b6.o.2,by have:=bO.o.size;have:=y.o;omega⟩;obtain ⟨cs,fl⟩:∃cs:Array ky, #[fs (some B),S (aQ r),hK Y 0 0,J U (bH r),J hN k.toNat]=cs:=⟨_,rfl⟩;rw [fl] at fr;have g4:=Z fl;have hX:=Z fr;have hi:=(bO.o.block w.heap.size (by omega)).trans HR.o;have s2:wc.cell? ⟨w.heap.size,2,Y⟩=some (hK a0 r.length c0):=(aa hi 2).trans rfl;have g6:Hid (∀W bs,OfS (w.heap.size+2) w1 T B cs W bs->Bw w W):=λW bs h=>F.o.trans (h.b.mono (by omega));clear fr fl hi h8 fz bO r0 r1 r2;go_wp2_with fail
  go_loopw [23] (λi wr=>∃q:Nat,q<=r.length/\i=J U q/\Hid (OfS (w.heap.size+2) w1 T B cs wr (booksR (r.take q)))) (λi _=>r.length - (intOf i).toNat)
  case atStart=>exact ⟨0,Nat.zero_le _,rfl,hX.o.same (by simp [booksR])⟩
  case round=>
   obtain ⟨q,hq,rfl,b2⟩:=hrel;by_cases hlt:q<r.length
   · have b0:=g6 _ _ b2.o;have hr:ai 0 w.heap.size wr (hK a0 r.length c0) r:=hV _ b0;have j4:w.heap.size<=wr.heap.size:=b0.size;obtain ⟨b,ja,ib,d,hv,aS,ch,e0,e1,e2,e3,b1⟩:=hr.field q hlt;cases hv;have L:=gx.2 _ (List.getElem_mem hlt);have HN:=Z (mK r q hlt);rw [mM] at HN;have j2:r[q].subs.length<=1000000:=k4 (cM _) L;have hW:Hid (∀s∈r[q].subs,s.text.length<=1000000):=λs hs=>lM L hs;obtain ⟨da,dc,rfl,_⟩:=id b1;have i0:=Z b1;clear b1 hr L b0;generalize r[q].tag=TG at *;generalize r[q].ind=IN at *;generalize r[q].data=DT at *;generalize r[q].subs=ss at *;obtain ⟨wq,cQ⟩:=Qe (wr.alloc (jj #[S TG,S IN,S DT,hK da ss.length dc] 123));have cy:Bw wr wq:=by rw [<- cQ];exact (kq _ wr).alloc (kn _) _
     have hh:wq.heap[wr.heap.size]? =some (jj #[S TG,S IN,S DT,hK da ss.length dc] 123 (0,0)):=by rw [<- cQ];exact ka wr _
     have hY:=Z (b2.below cy);have i1:Hid (aD 0 w.heap.size wq (hK da ss.length dc) ss):=i0.o.kept (λk _ h=>cy.block k (by omega));have i4:=Z cQ;have d5:=Z hh;have hy:=Z cy;obtain ⟨R,hR⟩:=Qe wr.heap.size;clear cQ hh cy;go_upto_region 5 with fail
     rw [i4.o];rw [hR] at d5;have gp:=Z hR;clear hR;have g0:wq.cell? ⟨R,3,Y⟩=some (hK da ss.length dc):=(aa d5.o 3).trans rfl;go_wp2_with fail
     go_loopw [30] (λj wx=>∃p:Nat,p<=ss.length/\j=J U p/\Hid (OfS (w.heap.size+2) w1 T B cs wx (booksR (r.take q)++bookS TG (ss.take p)))/\Hid (wx.heap[R]? =some (jj #[S TG,S IN,S DT,hK da ss.length dc] 123 (0,0)))/\Hid (aD 0 w.heap.size wx (hK da ss.length dc) ss)/\R<=wx.heap.size/\w.heap.size<=R) (λj _=>ss.length - (intOf j).toNat)
     case atStart=>exact ⟨0,Nat.zero_le _,rfl,hY.o.same (by unfold bookS;split<;>simp),d5,i1,by have:=hy.o.size;have:=gp.o;omega,by have:=gp.o;omega⟩
     case round=>
      obtain ⟨p,hp,rfl,a4,G,bB,iD,cP⟩:=hrel;by_cases hlp:p<ss.length
      · obtain ⟨b',jb,it,hv,_,iF,d0,d1⟩:=bB.sub p hlp;cases hv;have bY:=Z (mL TG ss p hlp);have j3:=hW _ (List.getElem_mem hlp);generalize ss[p].code=C at *;generalize ss[p].text=X at *;have iN:b'<wr.heap.size:=by omega
        have gn:=Z (gv r q gx.o);have gq:Hid ((bookS TG (ss.take p)).length<=1000000):=by have h1:=kp TG (ss.take p);rw [k5] at h1;unfold Hid;omega
        obtain ⟨LB,cd⟩:=Qe (booksR (r.take q)++bookS TG (ss.take p));have iv:LB.length<=2000000000000:=by have:=gn.o;have:=gq.o;rw [<- cd,kz];omega
        rw [cd] at a4;have bT:=Z cd;clear cd gn gq;cases hI:isbnR X with
        |none=>
         have b9:Hid (∀W,la prog 180 #[S X] W λe w'=>e=jn (.tuple #[S [],fn false])/\Bw W w'):=λW=>by have:=jE X W (by omega);rw [hI] at this;exact this
         have HE:Hid (booksR (r.take q)++bookS TG (ss.take (p+1))=LB):=by unfold Hid;rw [bY.o,hI, <- bT.o];split<;>simp
         clear hI;go_wp2_with (go_at_call 180;((with_reducible refine kb (b9.o _) ?_);rintro e M ⟨rfl,E⟩;have I:Bw wr M:=(ba wr _).trans (E.mono (by simp));have A:=Z I;clear I E))
         go_roundw
         case rel=>exact ⟨p+1,hlp,by go_num,(a4.o.below A.o).same HE.o,(A.o.block _ (ae G.o)).trans G.o,bB.o.kept (λg _ hg=>A.o.block g (by omega)),by have:=A.o.size;omega,cP⟩
         case measure=>simp [intOf];omega
        |some n=>
         have b9:Hid (∀W,la prog 180 #[S X] W λe w'=>e=jn (.tuple #[S n,fn true])/\Bw W w'):=λW=>by have:=jE X W (by omega);rw [hI] at this;exact this
         have j1:n.length<=13:=fk hI;by_cases m:TG=[48,50,48]
         · subst m;by_cases hC:C=97
           · have i6:((C.toNat:Int)==97)=true:=by rw [hC];rfl
             have HE:Hid (booksR (r.take q)++bookS [48,50,48] (ss.take (p+1))=LB++[n]):=by unfold Hid;rw [bY.o,hI, <- bT.o,if_pos ⟨rfl,hC⟩];simp
             obtain ⟨lb,g1,g2,g3⟩:=a4.k;have g5:=Z g1;have hA:=Z g2;have b8:Hid (∀W,Bw wr W->W.cell? ⟨T,0,Y⟩=some (fs (some B))/\W.cell? ⟨R,0,Y⟩=some (S [48,50,48])):=λW D=>⟨by rw [aa ((D.block _ (ae a4.o.t)).trans a4.o.t), <- g4.o];rfl,(aa ((D.block _ (ae G.o)).trans G.o) 0).trans rfl⟩
             clear hI hC g1 g2
             go_wp2_with (first
              |(go_at_call 180;((with_reducible refine kb (b9.o _) ?_);rintro e M ⟨rfl,E⟩;have I:Bw wr M:=(ba wr _).trans (E.mono (by simp));obtain ⟨t0,r0⟩:=b8.o M I;have z0:=((aE E).1 wr.heap.size 0 (by simp));have di:Hid (ak tG M B (lb.map λs=>(s,fn true))):=g5.o.block (I.block _ g5.o.lt);have A:=Z I;clear I E))
              |(at_mapUpdate;refine uV _ rfl _ _ _ 206 rfl 4 underlying206 B _ rfl di.o ?_ n ?_ rfl (fn true) rfl ?_;(focus (rw [List.length_map];unfold maxLen;omega));(focus (show n.length<=maxLen;unfold maxLen;omega));intro w4 ho ht;have bp:=Z ho;have a9:=Z (en ht);clear ho ht))
             go_roundw
             case rel=> obtain ⟨l',e1,e2,e3⟩:=yI lb n;have hm:=bp.o;rw [e1] at hm;have cz:OfS (w.heap.size+2) w1 T B cs w4 (LB++[n]):=(a4.o.below A.o).put a9.o ⟨l',hm,λs=>by rw [e2,hA.o];simp,by simp;omega⟩;have i7:=nV ((a4.below A.o).k) ((A.block _ (ae G.o)).trans G.o);exact ⟨p+1,hlp,by go_num,cz.same HE.o,(a9.o.block _ i7).trans ((A.o.block _ (ae G.o)).trans G.o),bB.o.kept (λg _ hg=>(a9.o.block g (by have:=b6.o.1;omega)).trans (A.o.block g (by omega))),by have:=A.o.size;rw [a9.o.size];omega,cP⟩
             case measure=>simp [intOf];omega
           · have i6:((C.toNat:Int)==97)=false:=by have:C.toNat≠97:=λh=>hC (UInt8.toNat_inj.1 h);simp;omega
             have HE:Hid (booksR (r.take q)++bookS [48,50,48] (ss.take (p+1))=LB):=by unfold Hid;rw [bY.o, <- bT.o,if_neg (λh=>hC h.2),List.append_nil]
             have b8:Hid (∀W,Bw wr W->W.cell? ⟨R,0,Y⟩=some (S [48,50,48])):=λW D=>(aa ((D.block _ (ae G.o)).trans G.o) 0).trans rfl;clear hI hC;go_wp2_with (go_at_call 180;((with_reducible refine kb (b9.o _) ?_);rintro e M ⟨rfl,E⟩;have I:Bw wr M:=(ba wr _).trans (E.mono (by simp));have r0:=b8.o M I;have z0:=((aE E).1 wr.heap.size 0 (by simp));have A:=Z I;clear I E))
             go_roundw
             case rel=>exact ⟨p+1,hlp,by go_num,(a4.o.below A.o).same HE.o,(A.o.block _ (ae G.o)).trans G.o,bB.o.kept (λg _ hg=>A.o.block g (by omega)),by have:=A.o.size;omega,cP⟩
             case measure=>simp [intOf];omega
         · have HE:Hid (booksR (r.take q)++bookS TG (ss.take (p+1))=LB):=by unfold Hid;rw [bY.o, <- bT.o,if_neg (λh=>m h.1),List.append_nil]
           have b8:Hid (∀W,Bw wr W->W.cell? ⟨R,0,Y⟩=some (S TG)):=λW D=>(aa ((D.block _ (ae G.o)).trans G.o) 0).trans rfl;clear hI;go_wp2_with (go_at_call 180;((with_reducible refine kb (b9.o _) ?_);rintro e M ⟨rfl,E⟩;have I:Bw wr M:=(ba wr _).trans (E.mono (by simp));have r0:=b8.o M I;have z0:=((aE E).1 wr.heap.size 0 (by simp));have A:=Z I;clear I E))
           go_roundw
           case rel=>exact ⟨p+1,hlp,by go_num,(a4.o.below A.o).same HE.o,(A.o.block _ (ae G.o)).trans G.o,bB.o.kept (λg _ hg=>A.o.block g (by omega)),by have:=A.o.size;omega,cP⟩
           case measure=>simp [intOf];omega
      · have HE:Hid (booksR (r.take (q+1))=booksR (r.take q)++bookS TG (ss.take p)):=by unfold Hid;rw [HN.o,show ss.take p=ss from kx (by omega)]
        go_wp2_with fail
        go_roundw
        case rel=>exact ⟨q+1,hlt,by go_num,a4.same HE.o⟩
        case measure=>simp [intOf];omega
   · have HE:Hid (booksR r=booksR (r.take q)):=by unfold Hid;rw [kx (by omega)]
     have b0:=g6 _ _ b2.o;have cz:=b2.same HE.o;have e9:=Z ((b2.o.b.block w.heap.size (by omega)).trans HR.o);have h9:=Z ((b2.o.b.block (w.heap.size+1) (by omega)).trans HZ.o);have r0:wr.cell? ⟨w.heap.size,0,Y⟩=some (J hN k.toNat):=(aa e9.o 0).trans rfl;have r1:wr.cell? ⟨w.heap.size,1,Y⟩=some (J hN l.toNat):=(aa e9.o 1).trans rfl;have r2:wr.cell? ⟨w.heap.size,2,Y⟩=some (hK a0 r.length c0):=(aa e9.o 2).trans rfl;have H1:=Z (HF wr b0);have hz:=Z b0;have bD:=Z cz;clear b0 cz;obtain ⟨g,hg⟩:=Qe ((firstF r [49,48,48]).getD zeroF);obtain ⟨tx,ft⟩:=Qe (textF (firstF r [49,48,48]) [97]);have fx:tx=textS g.subs [97]:=by rw [<- ft, <- hg,nK]
     rw [hg] at H1 ay;rw [ft] at ay fy;obtain ⟨gt,gi,gd,gs⟩:=g;dsimp only at H1 ay fx;have H3:Hid (∀(W:ko) (d:ky),aD 0 W.heap.size W d gs->la prog 183 #[.agg #[S gt,S gi,S gd,d],J hN 97] W λe w'=>e=jn (S tx)/\Bw W w'):=λW d h=>by rw [fx];exact qY gt gi gd d gs 97 W h ay.1 ay.2.1
     have H4:Hid (∀W,la prog 182 #[S tx] W λe w'=>∃v,e=jn v/\w'.ownsRow W.heap.size 9 1 v (be tx).length ((be tx).map λs=>S s)/\Bw W w'):=λW=>vZ tx ay.2.2 W;generalize (firstF r [49,48,48]).isSome=is1 at *;have iS:¬(w.heap.size+1=T):=by have:=b6.o.2;omega
     have j0:¬(T=w.heap.size+1):=by have:=b6.o.2;omega
     clear hg ft fx ay
     go_wp2_with (first
      |(go_at_call 181;((with_reducible refine kb H1.o ?_);rintro e M ⟨⟨v,rfl,dd,rfl,b1⟩,E⟩;obtain ⟨da,dc,rfl,_⟩:=id b1;have hS:=Z (b1.mono (kn 0) E.size);have d3:=Z E;clear b1 E))
      |(go_at_call 183;((with_reducible refine kb (H3.o _ _ (hS.o.up2 (ba _ _) (kn _))) ?_);rintro e w4 ⟨rfl,hl⟩;have d4:=Z ((ba M _).trans (hl.mono (by simp)));clear hl))
      |(go_at_call 182;((with_reducible refine kb (H4.o _) ?_);rintro e w5 ⟨v,rfl,fp,aT⟩;obtain ⟨va,vc,rfl⟩:=aK fp;have hQ:=Z fp;have cu:Bw wr w5:=d3.o.trans ((d4.o.trans (aT.mono d4.o.size)).mono d3.o.size);have hx:=Z cu;have a8:=(cu.block _ (ae bD.o.t)).trans bD.o.t;rw [<- g4.o] at a8;have P:=(cu.block _ (ae h9.o)).trans h9.o;have O:=ab a8 2;have Q:=(aa a8 0).trans rfl;have V:=(aa a8 1).trans rfl;have x2:=(aa a8 2).trans rfl;have x3:=(aa a8 3).trans rfl;have x4:=(aa a8 4).trans rfl;have y0:=ab P 0;have y1:=ab P 1;have y2:=ab P 2;have y3:=ab P 3;have y4:=ab P 4;have u0:=(aa P 0).trans rfl;have u1:=(aa P 1).trans rfl;have u2:=(aa P 2).trans rfl;have u3:=(aa P 3).trans rfl;have u4:=(aa P 4).trans rfl;have i8:=Z a8;have ia:=Z P;clear aT cu a8 P fp)))
     refine bodyPost_ret (v:= .agg #[fs (some B),S (aQ r), .slice va (be tx).length vc,J U (bH r),J hN k.toNat]) (by rw [cT rfl];go_simp) rfl ?_;refine ⟨_,rfl,Cp bD.o hx.o hQ.o fy.o b6.o hz.o (by have:=d4.o.size;have:=d3.o.size;have:=bD.o.sz;have:=ae bD.o.t;omega) _ _ _ _ _ _ _ rfl⟩
structure cj (w W:ko) (c1 c2:Array ky) (n:Int):Prop where
 b:Bw w W
 x:W.heap[w.heap.size]? =some (.cells c1 208 (0,0))
 y:W.heap[w.heap.size+1]? =some (.cells c2 208 (0,0))
 s:W.heap[w.heap.size+2]? =some (.cells #[.int .i64 n] 3 (0,0))
theorem cj.below {w W c:ko} {c1 c2:Array ky} {n:Int} (h:cj w W c1 c2 n) (a:Bw W c):cj w c c1 c2 n:=
 ⟨h.b.trans (a.mono h.b.size),(a.block _ (ae h.x)).trans h.x,(a.block _ (ae h.y)).trans h.y,(a.block _ (ae h.s)).trans h.s⟩
theorem cj.add {w W:ko} {c1 c2:Array ky} {n:Int} (h:cj w W c1 c2 n) (d: -1000<=n/\n<=1000) (p q:Bool) (x y:Int) (g: -1000<=x/\x<=1000) (i: -1000<=y/\y<=1000):
 la prog 188 #[fn p,fn q,J U x,J U y,k0 (X ⟨w.heap.size+2,0,Y⟩)] W λe w'=>e=jn (.tuple #[])/\cj w w' c1 c2 (if p then if q then n+x else n+y else n):=
 (rG (w.heap.size+2) n x y p q W h.s d g i).mono λe w' ⟨c,f,a⟩=>⟨c,⟨h.b.trans (a.below (by omega)),(a.block _ (by omega)).trans h.x,(a.block _ (by omega)).trans h.y,f⟩⟩
theorem Au {w:ko} {b:Nat} {l:List Bs} (h:ak tG w b (l.map λs=>(s,fn true))) (k:Bs):(lookL (l.map λs=>(s,k9 true)) k).getD (fn false)=fn (decide (k∈l)):=by
 by_cases hm:k∈l
 · rw [decide_eq_true hm,(bl h.nodup).2 (List.mem_map.2 ⟨k,hm,rfl⟩)];rfl
 · rw [decide_eq_false hm,ir.2 (λv d=>by
    obtain ⟨s,c,a⟩:=List.mem_map.1 d;injection a with h1 _
    exact hm (h1 ▸ c))]
   rfl
theorem yt {w:ko} {b:Nat} {l:List Bs} (h:ak tG w b (l.map λs=>(s,fn true))) (k:Bs) (a:k.length<=maxLen):(Instr.lookup 206 (fs (X b)) (S k) false).run prog w= .ok (fn (decide (k∈l))) w:=by
 have:=ak.look h underlying206 (z:=fn false) (by kernel_rfl) k a;rw [Au h] at this;exact this
theorem om {w:ko} {lo n c:Nat} {a:Option Addr} {l:List Bs} (h:w.ownsRow lo 9 1 (hK a n c) n (l.map λs=>S s)) (e:0<n):∃g,a=X ⟨g,0,Y⟩/\g<w.heap.size/\w.cell? ⟨g,0,Y⟩=X (S (l.headD [])):=by
 obtain ⟨g,k,b,_⟩:=World.ownsRow.form h e;injection b with h1 h2 h3
 subst h1 h3;refine ⟨g,rfl,(h.lt g (by simp [Value.ownBlock])).2,?_⟩;rw [h.cellAt 0 (by omega)];have d:l.length=n:=by have:=h.1;simpa using this
 cases l with
 |nil=>simp at d;omega
 |cons s l=>rfl
theorem l0 (s:Bs): -1<=aO s/\aO s<=9999:=by
 unfold aO;split
 · rename_i h;have:=sr s (λc a=>List.all_eq_true.1 h.2 c a) 4 (by omega);rw [kx (by omega)] at this;unfold foldN at this;omega
 · omega
theorem nw:∀s:Bs, -1<=bn s/\bn s<=9999
 |[]=>by unfold bn;omega
 |c::l=>by
  unfold bn
  split
  · exact l0 _
  · exact nw l
theorem uU (a:List af): -1<=bH a/\bH a<=9999:=by
 unfold bH;split
 · unfold jr;split
   · split
     · exact l0 _
     · omega
   · omega
 · exact nw _
theorem tX (dx dy:Nat) (u v:ky) (r s:az) (w:ko) (hu:cf dx w u r) (hv:cf dy w v s) (hr:(bx r.fields).length<=1000000000) (j:(bx s.fields).length<=1000000000):
 la prog 131 #[u,v] w λe w'=>e=jn (J U (pointsR r s))/\Bw w w':=by
 obtain ⟨N,n1,k1,a1,rfl,_,⟨l1,m1,e1,_⟩,o1⟩:=hu;obtain ⟨b2,n2,k2,a2,rfl,_,⟨l2,E,e2,_⟩,o2⟩:=hv;have dc:n1=(bx r.fields).length:=by have:=o1.1;simp at this;rcases o1.2 with ⟨h,h0⟩|⟨g,c,cu,h,_⟩<;>injection h<;>omega
 have di:n2=(bx s.fields).length:=by have:=o2.1;simp at this;rcases o2.2 with ⟨h,h0⟩|⟨g,c,cu,h,_⟩<;>injection h<;>omega
 subst dc di;have HP:Hid (pointsR r s=bookPts (booksR r.fields) (booksR s.fields)+titlePts (aQ r.fields) (aQ s.fields)+authorPts (bx r.fields) (bx s.fields)+yearPts (bH r.fields) (bH s.fields)+(if r.kind=s.kind then 0 else -40)):=rfl;generalize booksR r.fields=B1 at *;generalize booksR s.fields=B2 at *;generalize aQ r.fields=l at *;generalize aQ s.fields=o at *;generalize bx r.fields=A1 at *;generalize bx s.fields=A2 at *;have eQ:=uU r.fields;have f0:=uU s.fields;generalize bH r.fields=Y1 at *;generalize bH s.fields=Y2 at *;generalize r.kind=K1 at *;generalize s.kind=K2 at *;obtain ⟨c1,P⟩:∃c1:Array ky, #[fs (X N),S l,hK a1 A1.length k1,J U Y1,J hN K1.toNat]=c1:=⟨_,rfl⟩;obtain ⟨c2,Q⟩:∃c2:Array ky, #[fs (X b2),S o,hK a2 A2.length k2,J U Y2,J hN K2.toNat]=c2:=⟨_,rfl⟩;have dz:=Z P;have e0:=Z Q;have bs:=Z m1;have bt:=Z E;have aS:=Z o1;have aT:=Z o2;have ad:=Z e1;have al:=Z e2
 have B:Hid (∀W n,cj w W c1 c2 n->(W.cell? ⟨w.heap.size,0,Y⟩=X (fs (X N))/\W.cell? ⟨w.heap.size,1,Y⟩=X (S l)/\W.cell? ⟨w.heap.size,2,Y⟩=X (hK a1 A1.length k1)/\W.cell? ⟨w.heap.size,3,Y⟩=X (J U Y1)/\W.cell? ⟨w.heap.size,4,Y⟩=X (J hN K1.toNat))/\
  (W.cell? ⟨w.heap.size+1,0,Y⟩=X (fs (X b2))/\W.cell? ⟨w.heap.size+1,1,Y⟩=X (S o)/\W.cell? ⟨w.heap.size+1,2,Y⟩=X (hK a2 A2.length k2)/\W.cell? ⟨w.heap.size+1,3,Y⟩=X (J U Y2)/\W.cell? ⟨w.heap.size+1,4,Y⟩=X (J hN K2.toNat))):=λW n h=>by
  have h1:=h.x
  have i:=h.y
  rw [<- P] at h1
  rw [<- Q] at i
  exact ⟨⟨(aa h1 0).trans rfl,(aa h1 1).trans rfl,(aa h1 2).trans rfl,(aa h1 3).trans rfl,(aa h1 4).trans rfl⟩,⟨(aa i 0).trans rfl,(aa i 1).trans rfl,(aa i 2).trans rfl,(aa i 3).trans rfl,(aa i 4).trans rfl⟩⟩
 have bp:Hid (∀W,Bw w W->∀L,(Builtin.len_ #[206] L #[fs (X N)]).run prog W= .ok (J U l1.length) W/\(Builtin.len_ #[206] L #[fs (X b2)]).run prog W= .ok (J U l2.length) W):=λW hb L=>by have h1:=bQ.len (mv:=X N) (m1.block (hb.block _ m1.lt)) underlying206 L;have i:=bQ.len (mv:=X b2) (E.block (hb.block _ E.lt)) underlying206 L;rw [List.length_map] at h1 i;exact ⟨h1,i⟩
 clear m1 E o1 o2 e1 e2;have a8:cj w (((w.alloc (jj c1 208)).alloc (jj c2 208)).alloc (jj #[J U 0] 3)) c1 c2 0:=by
  have z1:(w.alloc (jj c1 208)).heap.size=w.heap.size+1:=by simp
  have z2:((w.alloc (jj c1 208)).alloc (jj c2 208)).heap.size=w.heap.size+2:=by simp
  refine ⟨(((kq _ w).alloc (kn _) _).alloc (by simp) _).alloc (by simp;omega) _,?_,?_,?_⟩
  · rw [kd _ _ _ (by simp;omega),kd _ _ _ (by simp)];exact ka w _
  · rw [kd _ _ _ (by simp), <- z1];exact ka _ _
  · rw [<- z2];exact ka _ _
 rw [<- P, <- Q] at a8;generalize hW3:((w.alloc (jj #[fs (X N),S l,hK a1 A1.length k1,J U Y1,J hN K1.toNat] 208)).alloc (jj #[fs (X b2),S o,hK a2 A2.length k2,J U Y2,J hN K2.toNat] 208)).alloc (jj #[J U 0] 3)=w3 at a8;rw [P,Q] at a8;have cQ:=Z hW3;have H3:=Z a8;have ch:w3.heap.size=w.heap.size+3:=by rw [<- hW3];simp
 have au:=Z ch;clear hW3 a8 P Q ch;go_enter func131,ntmps131;go_upto_region 4 with fail
 rw [cQ.o];obtain ⟨⟨x0,_,_,_,_⟩,_⟩:=B w3 0 H3.o;have da:=Z (bs.block (H3.b.block _ bs.lt));go_wp2_with (refine nB _ rfl _ _ rfl 4 underlying206 N _ rfl da.o ?_;intro w4 cd c5 ds)
 have bY:=Z cd;have H4:=Z (H3.below c5);clear cd c5 ds x0;obtain ⟨M,b3⟩:∃M:List (Bs×ky),l1.map (λs=>(s,fn true))=M:=⟨_,rfl⟩;rw [b3] at bY;have aC:=Z b3;clear b3;go_simp;go_loopg [7] (M.length+1) (λg t wr=>∃(b:Bool) (left:List (Bs×ky)),left.length<g/\t=fn b/\Hid (ct tG wr N w3.heap.size M left)/\Hid (cj w wr c1 c2 0)/\Hid (b=true↔∃x∈M,x∉left/\x.1∈l2))
 case atStart=>exact ⟨false,M,by omega,rfl,bY,H4,by
  unfold Hid;constructor
  · intro h;cases h
  · rintro ⟨x,R,A,_⟩;exact absurd R A⟩
 case round=>
  obtain ⟨b,left,ej,rfl,HR,V,HB⟩:=hrel;go_wp2_with (refine qO _ rfl _ rfl N w3.heap.size M left rfl HR.o ?_ ?_)
  · intro d8;subst d8;have b9:Hid (b=true↔B1.any B2.contains=true):=by
     unfold Hid;rw [HB.o,List.any_eq_true];constructor
     · rintro ⟨x,R,_,i⟩;rw [<- aC.o] at R;obtain ⟨s,j,rfl⟩:=List.mem_map.1 R;exact ⟨s,(ad.o s).1 j,by simpa using (al.o s).1 i⟩
     · rintro ⟨s,j,i⟩;exact ⟨(s,fn true),by rw [<- aC.o];exact List.mem_map.2 ⟨s,(ad.o s).2 j,rfl⟩,by simp,(al.o s).2 (by simpa using i)⟩
    go_upto_region 8 with fail
    go_cut [] (λz=>Hid (cj w z c1 c2 (bookPts B1 B2)))
    case first=>
     obtain ⟨⟨x0,_,_,_,_⟩,y0,_,_,_,_⟩:=B wr 0 V.o;have ee:=λL=>(bp wr V.b L).1;have eg:=λL=>(bp wr V.b L).2;have z1:l1.length=0↔B1=[]:=by
      rw [List.length_eq_zero_iff];constructor
      · rintro rfl;exact List.eq_nil_iff_forall_not_mem.2 λs j=>by have:=(ad.o s).2 j;simp at this
      · rintro rfl;exact List.eq_nil_iff_forall_not_mem.2 λs j=>by have:=(ad.o s).1 j;simp at this
     have z2:l2.length=0↔B2=[]:=by
      rw [List.length_eq_zero_iff];constructor
      · rintro rfl;exact List.eq_nil_iff_forall_not_mem.2 λs j=>by have:=(al.o s).2 j;simp at this
      · rintro rfl;exact List.eq_nil_iff_forall_not_mem.2 λs j=>by have:=(al.o s).1 j;simp at this
     have ay:Hid (bookPts B1 B2=if l1.length=0∨l2.length=0 then 0 else if b=true then 50 else -30):=by
      unfold Hid bookPts;by_cases hz:B1=[]∨B2=[]
      · rw [if_pos hz,if_pos (hz.imp z1.2 z2.2)]
      · have dp:¬(l1.length=0∨l2.length=0):=λh=>hz (h.imp z1.1 z2.1);rw [if_neg hz,if_neg dp];by_cases hb:b=true
        · rw [if_pos hb,if_pos (b9.o.1 hb)]
        · rw [if_neg hb,if_neg (λh=>hb (b9.o.2 h))]
     clear z1 z2;generalize l1.length=q1 at *;generalize l2.length=q2 at *;rcases ks q1 with rfl|F
     · go_wp2_with (go_at_call 188;refine kb (cj.add V.o ⟨by omega,by omega⟩ _ _ _ _ ⟨by decide,by decide⟩ ⟨by decide,by decide⟩) ?_;rintro e T ⟨rfl,a⟩;have d:=Z a;clear a)
       go_meet;have:=d.o;rw [show bookPts B1 B2=0 by rw [ay.o];simp];show cj _ _ _ _ _;simpa using this
     · rcases ks q2 with rfl|G
       · go_wp2_with (go_at_call 188;refine kb (cj.add V.o ⟨by omega,by omega⟩ _ _ _ _ ⟨by decide,by decide⟩ ⟨by decide,by decide⟩) ?_;rintro e T ⟨rfl,a⟩;have d:=Z a;clear a)
         go_meet;have:=d.o;rw [show bookPts B1 B2=0 by rw [ay.o];simp];show cj _ _ _ _ _;simpa using this
       · have C:(0:Int)<(q1:Int):=by omega
         have O:(0:Int)<(q2:Int):=by omega
         go_wp2_with (go_at_call 188;refine kb (cj.add V.o ⟨by omega,by omega⟩ _ _ _ _ ⟨by decide,by decide⟩ ⟨by decide,by decide⟩) ?_;rintro e T ⟨rfl,a⟩;have d:=Z a;clear a)
         go_meet;have:=d.o;rw [show bookPts B1 B2=if b=true then 50 else -30 by rw [ay.o,if_neg (by omega)]];show cj _ _ _ _ _;simpa using this
    case rest=>
     have ao:=hcut;clear hcut;go_upto_region 9 with fail
     go_cut [] (λz=>Hid (cj w z c1 c2 (bookPts B1 B2+titlePts l o)))
     case first=>
      obtain ⟨⟨_,x1,_,_,_⟩,_,y1,_,_,_⟩:=B wc _ ao.o;have e9: -30<=bookPts B1 B2/\bookPts B1 B2<=50:=by unfold bookPts;split;omega;split<;>omega
      have b0:Hid (titlePts l o=if l=[]∨o=[] then 0 else if l=o then 30 else -20):=rfl;generalize bookPts B1 B2=n at *;rcases l with _|⟨t1,l⟩
      · go_wp2_with (go_at_call 188;refine kb (cj.add ao.o ⟨by omega,by omega⟩ _ _ _ _ ⟨by decide,by decide⟩ ⟨by decide,by decide⟩) ?_;rintro e T ⟨rfl,a⟩;have d:=Z a;clear a)
        go_meet;have:=d.o;rw [b0.o];show cj _ _ _ _ _;simpa using this
      · rcases o with _|⟨t2,o⟩
        · go_wp2_with (go_at_call 188;refine kb (cj.add ao.o ⟨by omega,by omega⟩ _ _ _ _ ⟨by decide,by decide⟩ ⟨by decide,by decide⟩) ?_;rintro e T ⟨rfl,a⟩;have d:=Z a;clear a)
          go_meet;have:=d.o;rw [b0.o];show cj _ _ _ _ _;simpa using this
        · go_wp2_with (go_at_call 188;refine kb (cj.add ao.o ⟨by omega,by omega⟩ _ _ _ _ ⟨by decide,by decide⟩ ⟨by decide,by decide⟩) ?_;rintro e T ⟨rfl,a⟩;have d:=Z a;clear a)
          go_meet;have:=d.o;rw [b0.o];show cj _ _ _ _ _;by_cases hT:(t1::l:Bs)=t2::o
          · rw [if_neg (by simp),if_pos hT];injection hT with C O
            subst C O;simpa using this
          · rw [if_neg (by simp),if_neg hT];have d6:¬(t1=t2/\l=o):=λh=>hT (by rw [h.1,h.2]);simpa [d6] using this
     case rest=>
      have a4:=hcut;clear hcut;obtain ⟨n,A⟩:=Qe (bookPts B1 B2+titlePts l o);have er: -50<=n/\n<=80:=by
       rw [<- A];have h1: -30<=bookPts B1 B2/\bookPts B1 B2<=50:=by unfold bookPts;split;omega;split<;>omega
       have i: -20<=titlePts l o/\titlePts l o<=30:=by unfold titlePts;split;omega;split<;>omega
       omega
      rw [A] at a4;have HN:=Z A;clear A;go_upto_region 10 with fail
      go_cut [61] (λt z=>t=fn (decide (0<A1.length)&&decide (0<A2.length))/\z=wc)
      case first=>
       obtain ⟨⟨_,_,x2,_,_⟩,_,_,y2,_,_⟩:=B wc _ a4.o;generalize A1.length=q1 at *;generalize A2.length=q2 at *;rcases ks q1 with rfl|F
       · go_wp2_with fail
         go_meet;exact ⟨rfl,rfl⟩
       · rcases ks q2 with rfl|G
         · have C:(0:Int)<(q1:Int):=by omega
           go_wp2_with fail
           go_meet;exact ⟨by simp,rfl⟩
         · have C:(0:Int)<(q1:Int):=by omega
           have O:(0:Int)<(q2:Int):=by omega
           go_wp2_with fail
           go_meet;exact ⟨by simp [F,G],rfl⟩
      case rest=>
       obtain ⟨rfl,rfl⟩:=hcut;obtain ⟨bb,a0⟩:=Qe ((decide (0<A1.length)&&decide (0<A2.length)));rw [a0];have bc:=Z a0;clear a0;go_upto_if 61 with fail
       go_cut [] (λz=>Hid (cj w z c1 c2 (n+authorPts A1 A2)))
       case first=>
        cases bb
        · go_wp2_with fail
          go_meet;have:authorPts A1 A2=0:=by
           unfold authorPts;rw [if_pos];have h:=bc.o;rw [k7,decide_eq_false_iff_not,decide_eq_false_iff_not] at h;rcases h with h|h
           · exact .inl (k6 (by omega))
           · exact .inr (k6 (by omega))
          rw [this];show cj _ _ _ _ _;simpa using a4.o
        · have h:=bc.o;rw [Bool.and_eq_true,decide_eq_true_eq,decide_eq_true_eq] at h;obtain ⟨F,G⟩:=h;obtain ⟨C,rfl,c6,P⟩:=om aS.o F;obtain ⟨O,rfl,c7,Q⟩:=om aT.o G;have cl:Hid (authorPts A1 A2=if A1=A2 then 15 else if A1.headD []=A2.headD [] then 8 else -15):=by unfold Hid authorPts;rw [if_neg];rintro (rfl|rfl)<;>simp at F G
          have HQ:Hid (∀W n,cj w W c1 c2 n->W.cell? ⟨w.heap.size,2,Y⟩=X (hK (X ⟨C,0,Y⟩) A1.length k1)/\W.cell? ⟨w.heap.size+1,2,Y⟩=X (hK (X ⟨O,0,Y⟩) A2.length k2)/\W.cell? ⟨C,0,Y⟩=X (S (A1.headD []))/\W.cell? ⟨O,0,Y⟩=X (S (A2.headD []))):=λW n h=>by obtain ⟨⟨_,_,x2,_,_⟩,_,_,y2,_,_⟩:=B W n h;exact ⟨x2,y2,((aE h.b).1 _ _ c6).trans P,((aE h.b).1 _ _ c7).trans Q⟩
          have cp:Hid (∀W n,cj w W c1 c2 n->la prog 189 #[hK (X ⟨C,0,Y⟩) A1.length k1,hK (X ⟨O,0,Y⟩) A2.length k2] W λe w'=>e=jn (fn (decide (A1=A2)))/\∃q,w'=W.drewN q):=λW n h=>
           xv (ah aS.o (λg hg=>h.b.block g (aS.lt g hg).2)) (ah aT.o (λg hg=>h.b.block g (aT.lt g hg).2)) hr j
          have cq:Hid (A1=A2->A1.headD []=A2.headD []):=λh=>by rw [h]
          clear P Q c6 c7;generalize A1.headD []=h1 at *;generalize A2.headD []=i at *;have e3:Hid (A1.length<=1000000000):=hr;have e4:Hid (A2.length<=1000000000):=j;generalize A1.length=q1 at *;generalize A2.length=q2 at *;have i1:(0:Int)<(q1:Int):=by omega
          have i2:(0:Int)<(q2:Int):=by omega
          have c4:∃m,cj w wc.drew c1 c2 m:=⟨n,a4.below (kq _ wc).drew⟩;have bB:Hid (cj w wc.drew c1 c2 n):=a4.below (kq _ wc).drew;generalize hdd:decide (A1=A2)=dd at *;have bk:=Z hdd;clear hdd;go_wp2_with fail
          refine wT (λW=>∃m,cj w W c1 c2 m) 999 ?_;have I:=tkL [0,1,2,3,4,5,6,7,8,9,10,11,12,13];repeat (refine tkIS I ?_ rfl c4 ?_ ?_;rotate_left;intro w' h;obtain ⟨m,h⟩:=h;obtain ⟨c0,d0,c3,d3⟩:=HQ w' m h;go_simp;rfl;(try go_simp);replace I:=tkO I)
          clear I;refine Dp 14 λK k=>?_;go_simp;go_at_call 189;refine (cp _ _ bB.o).mono ?_;rintro e T ⟨rfl,qq,cg⟩;have bD:Hid (cj w T c1 c2 n):=by rw [cg];exact bB.o.below ⟨rfl,rfl,rfl,kn _,λ_ _=>rfl⟩
          clear cg;refine k _ _ (λ_=>⟨n,bD.o⟩) ?_;clear k K;refine Dp 15 λK k=>?_;go_simp;go_at_call 188;refine kb (cj.add bD.o ⟨by omega,by omega⟩ _ _ 15 8 ⟨by decide,by decide⟩ ⟨by decide,by decide⟩) ?_;rintro e w6 ⟨rfl,p⟩;obtain ⟨n6,b7,p⟩:∃n6,(n6=_)/\cj w w6 c1 c2 n6:=⟨_,rfl,p⟩;have e8: -50<=n6/\n6<=95:=by rw [b7];split;split;omega;omega;omega
          have a3:=Z p;have cv:=Z b7;clear b7;refine k _ _ (λ_=>⟨_,p⟩) ?_;clear k K;refine dN ?_;have d5:∃m,cj w w6.drew c1 c2 m:=⟨n6,a3.below (kq _ w6).drew⟩;have cy:Hid (cj w w6.drew c1 c2 n6):=a3.below (kq _ w6).drew;clear p c4;go_wp2_with fail
          refine wT (λW=>∃m,cj w W c1 c2 m) 999 ?_;have I:=tkL [0,1,2,3,4,5,6,7,8,9];repeat (refine tkIS I ?_ rfl d5 ?_ ?_;rotate_left;intro w' h;obtain ⟨m,h⟩:=h;obtain ⟨c0,d0,c3,d3⟩:=HQ w' m h;go_simp;rfl;(try go_simp);replace I:=tkO I)
          clear I;refine Dp 10 λK k=>?_;go_simp;go_at_call 188;refine kb (cj.add cy.o ⟨by omega,by omega⟩ _ _ (-15) 0 ⟨by decide,by decide⟩ ⟨by decide,by decide⟩) ?_;rintro e w7 ⟨rfl,a7⟩;obtain ⟨n7,cb,a7⟩:∃n7,(n7=_)/\cj w w7 c1 c2 n7:=⟨_,rfl,a7⟩;have cz:=Z a7;have cx:=Z cb;clear cb;refine k _ _ (λ_=>⟨_,a7⟩) ?_;clear k K;refine dN ?_;clear a7;go_wp2_with fail
          go_meet;show cj _ _ _ _ _;have e6:=cv.o;have e7:=cx.o;have e:n+authorPts A1 A2=n7:=by
           rw [cl.o];by_cases hA:A1=A2
           · have hh:=cq hA;subst hh;rw [<- bk.o,decide_eq_true hA] at e6;rw [if_pos hA];simp at e6 e7;omega
           · rw [<- bk.o,decide_eq_false hA] at e6;rw [if_neg hA];by_cases hh:h1=i
             · subst hh;simp at e6 e7 ⊢;omega
             · rw [if_neg hh];simp [hh] at e6 e7;omega
          rw [e];exact cz.o
       case rest=>
        have a5:=hcut;clear hcut;obtain ⟨m,D⟩:=Qe (n+authorPts A1 A2);have em: -65<=m/\m<=95:=by
         have: -15<=authorPts A1 A2/\authorPts A1 A2<=15:=by unfold authorPts;split;omega;split;omega;split<;>omega
         omega
        rw [D] at a5;have bA:=Z D;clear D;go_upto_region 13 with fail
        go_cut [112] (λt z=>t=fn (decide (0<=Y1)&&decide (0<=Y2)&&decide (Y1 - Y2≠1)&&decide (Y2 - Y1≠1))/\z=wc)
        case first=>
         obtain ⟨⟨_,_,_,x3,_⟩,_,_,_,y3,_⟩:=B wc _ a5.o;have w1:IntKind.i64.wrap (Y1 - Y2)=Y1 - Y2:=IntWalk.i64_in _ (by omega);have w2:IntKind.i64.wrap (Y2 - Y1)=Y2 - Y1:=IntWalk.i64_in _ (by omega);obtain ⟨d1,b4⟩:=Qe (Y1 - Y2);obtain ⟨d2,b5⟩:=Qe (Y2 - Y1);have W1:Hid (IntKind.i64.wrap (Y1 - Y2)=d1):=by rw [w1];exact b4
         have W2:Hid (IntKind.i64.wrap (Y2 - Y1)=d2):=by rw [w2];exact b5
         have a9:=Z b4;have ac:=Z b5;clear w1 w2 b4 b5;have w1:=W1.o;have w2:=W2.o;rcases Int.lt_or_le Y1 0 with F|F
         · have C:¬(0<=Y1):=by omega
           go_wp2_with fail
           go_meet;refine ⟨?_,rfl⟩;rw [a9.o,ac.o];simp;intro h;omega
         · rcases Int.lt_or_le Y2 0 with G|G
           · have O:¬(0<=Y2):=by omega
             go_wp2_with fail
             go_meet;refine ⟨?_,rfl⟩;rw [a9.o,ac.o];simp;intro _ h;omega
           · by_cases e1:d1=1
             · subst e1;go_wp2_with fail
               go_meet;refine ⟨?_,rfl⟩;rw [a9.o,ac.o];simp [F,G]
             · have f1:(d1 !=1)=true:=by simp [e1]
               go_wp2_with fail
               go_meet;refine ⟨?_,rfl⟩;rw [a9.o,ac.o];by_cases e2:d2=1<;>simp [F,G,e1,e2,bne]
        case rest=>
         obtain ⟨rfl,rfl⟩:=hcut;obtain ⟨bb,a0⟩:=Qe ((decide (0<=Y1)&&decide (0<=Y2)&&decide (Y1 - Y2≠1)&&decide (Y2 - Y1≠1)));rw [a0];have b8:=Z a0;clear a0;go_upto_if 112 with fail
         go_cut [] (λz=>Hid (cj w z c1 c2 (m+yearPts Y1 Y2)))
         case first=>
          cases bb
          · go_wp2_with fail
            go_meet;have h:=b8.o;have:yearPts Y1 Y2=0:=by
             unfold yearPts;simp only [k7,decide_eq_false_iff_not] at h;split
             · rfl
             · rw [if_neg (by omega),if_pos (by omega)]
            rw [this];show cj _ _ _ _ _;simpa using a5.o
          · obtain ⟨⟨_,_,_,x3,_⟩,_,_,_,y3,_⟩:=B wc _ a5.o;go_wp2_with (go_at_call 188;refine kb (cj.add a5.o ⟨by omega,by omega⟩ _ _ _ _ ⟨by decide,by decide⟩ ⟨by decide,by decide⟩) ?_;rintro e T ⟨rfl,a⟩;have d:=Z a;clear a)
            go_meet;have h:=b8.o;simp only [Bool.and_eq_true,decide_eq_true_eq] at h;have:=d.o;show cj _ _ _ _ _;unfold yearPts;rw [if_neg (by omega)];by_cases he:Y1=Y2
            · rw [if_pos he];simpa [he] using this
            · rw [if_neg he,if_neg (by omega)];simpa [he] using this
         case rest=>
          have d:=hcut;clear hcut;obtain ⟨E,b6⟩:=Qe (m+yearPts Y1 Y2);have eq: -75<=E/\E<=105:=by
           have: -10<=yearPts Y1 Y2/\yearPts Y1 Y2<=10:=by unfold yearPts;split;omega;split;omega;split<;>omega
           omega
          rw [b6] at d;have bw:=Z b6;clear b6;obtain ⟨⟨_,_,_,_,x4⟩,_,_,_,_,y4⟩:=B wc _ d.o;by_cases k:K1=K2
          · have hk:((K1.toNat:Int)==(K2.toNat:Int))=true:=by rw [k];simp
            have HK:=Z k;clear k;go_wp2_with (go_at_call 188;refine kb (cj.add d.o ⟨by omega,by omega⟩ _ _ _ _ ⟨by decide,by decide⟩ ⟨by decide,by decide⟩) ?_;rintro e w6 ⟨rfl,p⟩;have a3:=Z p;have s6:=(aa p.s 0).trans rfl;clear p)
            go_ret;refine ⟨?_,a3.b⟩;rw [HP.o,HN.o,bA.o,bw.o,if_pos HK.o];simp
          · have hk:((K1.toNat:Int)==(K2.toNat:Int))=false:=by have:K1.toNat≠K2.toNat:=λh=>k (UInt8.toNat_inj.1 h);simp;omega
            have HK:=Z k;clear k;go_wp2_with (go_at_call 188;refine kb (cj.add d.o ⟨by omega,by omega⟩ _ _ _ _ ⟨by decide,by decide⟩ ⟨by decide,by decide⟩) ?_;rintro e w6 ⟨rfl,p⟩;have a3:=Z p;have s6:=(aa p.s 0).trans rfl;clear p)
            go_ret;refine ⟨?_,a3.b⟩;rw [HP.o,HN.o,bA.o,bw.o,if_neg HK.o];simp
  · intro H pv w2 hp dn cc ca a6 d7;have e5:w3.heap.size<wr.heap.size:=HR.lt;have cP:Hid (left.Sublist M):=by obtain ⟨es,f,d4,h1,i,h3,h4,_⟩:=HR.o;exact h4
    have ex:H∈l1:=by
     obtain ⟨es,f,d4,h1,i,h3,h4,_⟩:=HR.o;have:=h4.subset hp;rw [<- aC.o] at this;obtain ⟨s,j,he⟩:=List.mem_map.1 this;injection he with h1 _
     rw [<- h1];exact j
    have av:cj w w2 c1 c2 0:=by have h:=V.o;exact ⟨h.b.trans (a6.below (by have:=au.o;omega)),(a6.block _ (by have:=au.o;omega)).trans h.x,(a6.block _ (by have:=au.o;omega)).trans h.y,(a6.block _ (by have:=au.o;omega)).trans h.s⟩
    have d9:=yt (bt.block (av.b.block _ bt.lt)) H dn;obtain ⟨_,y0,_,_,_,_⟩:=B w2 0 av;have bO:=Z av;have bT:=Z cc;have c9:tG.kv H=S H:=rfl;rw [c9] at d7;obtain ⟨m,D⟩:=Qe (decide (H∈l2));rw [D] at d9;have cs:=Z D;have cm:=Z hp;clear cc av c9 a6 D hp;cases b
    · go_wp2_with fail
      go_roundg (left.length)
      case rel=>
       refine ⟨m,cn left H,ca,rfl,bT,bO,?_⟩;unfold Hid;have h0:=HB.o;rw [<- cs.o,decide_eq_true_eq];constructor
       · intro D;exact ⟨(H,pv),cP.o.subset cm.o,by simp [cn],D⟩
       · rintro ⟨x,R,A,ax⟩;by_cases hxl:x∈left
         · have:x.1=H:=by apply Classical.byContradiction;intro dk;exact A (List.mem_filter.2 ⟨hxl,by simpa using dk⟩)
           rw [<- this];exact ax
         · exact absurd (h0.2 ⟨x,R,hxl,ax⟩) (by decide)
      case measure=>omega
    · go_wp2_with fail
      go_roundg (left.length)
      case rel=> refine ⟨true,cn left H,ca,rfl,bT,bO,?_⟩;unfold Hid;obtain ⟨x,R,A,ax⟩:=HB.o.1 (by simp);exact ⟨λ_=>⟨x,R,λh=>A (List.mem_filter.1 h).1,ax⟩,λ_=>rfl⟩
      case measure=>omega
end
end Go.Proofs.YtjcimanddakkaaaGreatDoor
