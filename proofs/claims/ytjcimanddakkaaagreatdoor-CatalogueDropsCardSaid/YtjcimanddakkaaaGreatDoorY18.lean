/- Lemmas. -/
import Derived.Test.YtjcimanddakkaaaGreatDoorY17
import Derived.Test.YtjcimanddakkaaaGreatDoorY20
import Derived.Deep.CutBlock
set_option maxRecDepth 100000
set_option maxHeartbeats 8000000
namespace Go.Proofs.YtjcimanddakkaaaGreatDoor
open Go.Value renaming bool→fn,map→fs,slice→hK,int→J,pointer→k9
open _root_.Option renaming some→X,none→Y
open Go.IntKind renaming i64→U,u8→hN
open Go.Obj renaming cells→k7
open Go.Ending renaming returned→k8
open Go.Lib renaming hid→Z
open Tryz
open Go.World renaming alloc_heap_new→ka
open Go.Calls renaming mono→kb
open _root_.Nat renaming le_add_right→kc,le_refl→kn,eq_zero_or_pos→ks,le_trans→ld
open Go.RowKit.Below renaming heap_alloc→kd,heap_setCell→kk,refl→kq
open Go renaming World→ko,Value→ky,Calls→lv
open Go.RowKit renaming Below→kt
open _root_.List renaming take_of_length_le→kx,length_append→kz,take_succ_eq_append_getElem→la,length_take→lf,eq_nil_of_length_eq_zero→lk,filterMap_cons→lp
open _root_.Bool renaming and_eq_false_iff→lm
open Go.Value renaming bool→ls
section
open Go.RowKit Go.Maps Go.Shelf
def rY:ee prog 9 Bs where
 kv s:=S s
 kl s:= .string s
 ok s:=s.length<=maxLen
 keyed:=string_keyed underlying9
 key s h:=by
  unfold keyOf
  rw [underlying9]
  simp only [mapKey,underlying9]
  rw [if_pos (by show s.toArray.size<=maxLen;simpa using h)]
 inj a b h:=by
  injection h with h
  have:=congrArg (λx:ByteArray=>x.data.toList) h
  simpa using this
def aJ (w:ko) (b:Nat) (a:List Bs):Prop:=∃l:List Bs,ak rY w b (l.map λs=>(s,fn true))/\(∀s,s∈l↔s∈a)/\l.length<=a.length
theorem aJ.block {w w':ko} {b:Nat} {a:List Bs} (h:aJ w b a) (e:w'.heap[b]? =w.heap[b]?):aJ w' b a:=by
 obtain ⟨l,c,d⟩:=h;exact ⟨l,c.block e,d⟩
theorem aJ.alloc {w:ko} {b:Nat} {a:List Bs} (h:aJ w b a) (o:Obj):aJ (w.alloc o) b a:=by
 obtain ⟨l,c,d⟩:=h;exact ⟨l,c.alloc o,d⟩
theorem di (w:ko):aJ (w.alloc (.map #[] 0)) w.heap.size []:=⟨[],ak.made w,by simp,kn _⟩
theorem aJ.lt {w:ko} {b:Nat} {a:List Bs} (h:aJ w b a):b<w.heap.size:=by obtain ⟨l,c,_⟩:=h;exact c.lt
def bV (lo:Nat) (w:ko) (v:ky) (r:az):Prop:=∃(b n c:Nat) (a:Option Addr),v= .agg #[fs (X b),S (aP r.fields),hK a n c,J U (bz r.fields),J hN r.kind.toNat]/\lo<=b/\aJ w b (booksR r.fields)/\
 w.ownsRow lo 9 1 (hK a n c) (br r.fields).length ((br r.fields).map λs=>S s)
theorem wR (l:List Bs) (k:Bs):∃a:List Bs,putL (l.map λs=>(s,ls true)) k (fn true)=a.map (λs=>(s,ls true))/\(∀s,s∈a↔s∈l∨s=k)/\a.length<=l.length+1:=by
 refine ⟨l.filter (λs=> !decide (s=k))++[k],?_,λs=>?_,by have:=List.length_filter_le (λs=> !decide (s=k)) l;simp;omega⟩
 · unfold putL co;rw [List.filter_map,List.map_append];rfl
 · simp only [List.mem_append,List.mem_filter,List.mem_singleton,Bool.not_eq_true',decide_eq_false_iff_not];constructor
   · rintro (⟨h,_⟩|h)
     · exact .inl h
     · exact .inr h
   · rintro (h|h)
     · by_cases e:s=k
       · exact .inr e
       · exact .inl ⟨h,e⟩
     · exact .inr h
theorem lW (a:List af) (q:Nat) (h:q<a.length):booksR (a.take (q+1))=booksR (a.take q)++ph a[q]:=by
 unfold booksR;rw [la h,List.flatMap_append];simp
def bookS (T:Bs) (a:List cr):List Bs:=if T=eb then a.filterMap λs=>if s.code=97 then isbnR s.text else Y else []
theorem lY (f:af):ph f=bookS f.tag f.subs:=rfl
theorem lX (T:Bs) (a:List cr) (j:Nat) (h:j<a.length):bookS T (a.take (j+1))=bookS T (a.take j)++(if T=eb/\a[j].code=97 then (isbnR a[j].text).toList else []):=by
 unfold bookS;rw [la h,List.filterMap_append];by_cases hT:T=eb
 · simp only [hT,true_and];congr 1
   by_cases hc:a[j].code=97
   · rw [if_pos hc,lp,if_pos hc];cases isbnR a[j].text<;>rfl
   · rw [if_neg hc,lp,if_neg hc];rfl
 · simp [hT]
theorem jM (T:Bs) (a:List cr):(bookS T a).length<=a.length:=by
 unfold bookS;split
 · exact List.length_filterMap_le _ _
 · simp
theorem vV (a:List af) (h:∀f∈a,f.subs.length<=1000000):(booksR a).length<=a.length * 1000000:=by
 induction a with
 |nil=>simp [booksR]
 |cons f a ih=> have d:=h f List.mem_cons_self;have b:=ih λg c=>h g (List.mem_cons_of_mem _ c);have e:=jM f.tag f.subs;unfold booksR at b ⊢;rw [List.flatMap_cons,kz,lY,List.length_cons,Nat.succ_mul];omega
theorem fQ (a:List af) (q:Nat) (h:bH a):(booksR (a.take q)).length<=1000000000000:=by
 have d:=vV (a.take q) λf c=>ld (cK f) (h.2 f (List.mem_of_mem_take c));have b:(a.take q).length<=1000000:=by rw [lf];have:=h.1;omega
 have:=Nat.mul_le_mul_right 1000000 b;omega
theorem eR {s x:Bs} (h:isbnR s=X x):x.length<=13:=by
 unfold isbnR at h;dsimp only at h;split at h
 · rename_i a;injection h with h
   rw [<- h];simp only [kz,List.length_cons,List.length_nil,lf];omega
 · split at h
   · rename_i a;injection h with h
     rw [<- h];omega
   · cases h
structure OfS (lo:Nat) (w1:ko) (T B:Nat) (cells:Array ky) (W:ko) (bs:List Bs):Prop where
 b:kt lo w1 W
 t:W.heap[T]? =some (.cells cells 208 (0,0))
 k:aJ W B bs
 lB:lo<=B
 lT:lo<=T
 sz:lo<=W.heap.size
theorem OfS.below {lo:Nat} {w1:ko} {T B:Nat} {e:Array ky} {W c:ko} {d:List Bs} (h:OfS lo w1 T B e W d) (a:Bw W c):OfS lo w1 T B e c d:=
 ⟨h.b.trans (a.mono h.sz),(a.block _ (ae h.t)).trans h.t,h.k.block (a.block _ h.k.lt),h.lB,h.lT,ld h.sz a.size⟩
theorem OfS.ne {lo:Nat} {w1:ko} {T B:Nat} {b:Array ky} {W:ko} {a:List Bs} (h:OfS lo w1 T B b W a):B≠T:=by
 obtain ⟨l,c,_⟩:=h.k;exact aj c h.t
theorem OfS.put {lo:Nat} {w1:ko} {T B:Nat} {d:Array ky} {W a:ko} {f e:List Bs} (h:OfS lo w1 T B d W f) (c:ar B W a) (g:aJ a B e):OfS lo w1 T B d a e:=
 ⟨h.b.trans (c.below h.lB),(c.block _ (Ne.symm h.ne)).trans h.t,g,h.lB,h.lT,by rw [c.size];exact h.sz⟩
theorem OfS.same {lo:Nat} {w1:ko} {T B:Nat} {b:Array ky} {W:ko} {a c:List Bs} (h:OfS lo w1 T B b W a) (e:c=a):OfS lo w1 T B b W c:=e ▸ h
theorem nd {W:ko} {b B t:Nat} {c:Array ky} {a:List Bs} (f:aJ W B a) (e:W.heap[b]? =X (k7 c t (0,0))):b≠B:=by
 obtain ⟨l,d,_⟩:=f;exact Ne.symm (aj d e)
theorem ed {w1 W:ko} {T B lo:Nat} {j k l m n a b c d e:ky} (h:W.heap[T]? =X (k7 #[j,k,l,m,n] 208 (0,0))/\lo<=T) (g:aJ W B []/\lo<=B) (p:kt lo w1 W) (f:ko)
 (o:f=((((W.setCell ⟨T,0,Y⟩ a).setCell ⟨T,1,Y⟩ b).setCell ⟨T,2,Y⟩ c).setCell ⟨T,3,Y⟩ d).setCell ⟨T,4,Y⟩ e):
 f.heap[T]? =X (k7 #[a,b,c,d,e] 208 (0,0))/\aJ f B []/\(lo<=B/\lo<=T)/\kt lo w1 f:=by
 subst o;have i:ar T W (((((W.setCell ⟨T,0,Y⟩ a).setCell ⟨T,1,Y⟩ b).setCell ⟨T,2,Y⟩ c).setCell ⟨T,3,Y⟩ d).setCell ⟨T,4,Y⟩ e):=(((((ar.refl T W).setCell 0 a).setCell 1 b).setCell 2 c).setCell 3 d).setCell 4 e;have q:B≠T:=Ne.symm (nd g.1 h.1);exact ⟨(am (am (am (am (am h.1 0 a) 1 b) 2 c) 3 d) 4 e).trans rfl,g.1.block (i.block _ q),⟨g.2,h.2⟩,p.trans (i.below h.2)⟩
theorem AE {w w1 wr u j:ko} {T B:Nat} {A:Array ky} {k l:UInt8} {i:List af} {n:Bs} {r:Option Addr} {t:Nat} (h:OfS (w.heap.size+2) w1 T B A wr (booksR i)) (v:Bw wr j)
 (o:j.ownsRow u.heap.size 9 1 (.slice r (bd n).length t) (bd n).length ((bd n).map λs=>S s)) (F:br i=bd n) (H:w.heap.size+2<=B/\w.heap.size+2<=T) (x:Bw w wr) (G:T<u.heap.size/\w.heap.size+2<=u.heap.size)
 (W:ko) (a b c d e f:ky) (E:W=((((((j.setCell ⟨T,2,Y⟩ a).setCell ⟨w.heap.size+1,0,Y⟩ b).setCell ⟨w.heap.size+1,1,Y⟩ c).setCell ⟨w.heap.size+1,2,Y⟩ d).setCell ⟨w.heap.size+1,3,Y⟩ e).setCell ⟨w.heap.size+1,4,Y⟩ f)):
 bV w.heap.size W (.agg #[fs (X B),S (aP i), .slice r (bd n).length t,J U (bz i),J hN k.toNat]) ⟨k,l,i⟩/\Bw w W:=by
 subst E;have z:∀q,q≠T->q≠w.heap.size+1->((((((j.setCell ⟨T,2,Y⟩ a).setCell ⟨w.heap.size+1,0,Y⟩ b).setCell ⟨w.heap.size+1,1,Y⟩ c).setCell ⟨w.heap.size+1,2,Y⟩ d).setCell ⟨w.heap.size+1,3,Y⟩ e).setCell ⟨w.heap.size+1,4,Y⟩ f).heap[q]? =j.heap[q]? :=λq C m=>by rw [kk _ _ _ _ m,kk _ _ _ _ m,kk _ _ _ _ m,kk _ _ _ _ m,kk _ _ _ _ m,kk _ _ _ _ C]
 refine ⟨⟨B,_,t,r,rfl,by omega,?_,?_⟩,?_⟩
 · exact (h.k.block (v.block _ h.k.lt)).block (z B h.ne (by omega))
 · show World.ownsRow _ _ _ _ _ (br i).length _;rw [F];refine bu (ah o λg y=>z g ?_ ?_) (by omega)
   · have:=(o.lt g y).1;omega
   · have:=(o.lt g y).1;omega
 · have D:Bw w j:=x.trans (v.mono x.size);exact (((((D.setCell (p:=⟨T,2,Y⟩) (by simp;omega) _).setCell (p:=⟨w.heap.size+1,0,Y⟩) (by simp) _).setCell (p:=⟨w.heap.size+1,1,Y⟩) (by simp) _).setCell (p:=⟨w.heap.size+1,2,Y⟩) (by simp) _).setCell (p:=⟨w.heap.size+1,3,Y⟩) (by simp) _).setCell (p:=⟨w.heap.size+1,4,Y⟩) (by simp) _
theorem AF (k l:UInt8) (x:ky) (r:List af) (w:ko) (hs:ai 0 w.heap.size w x r) (L:bH r):
 lv prog 129 #[.agg #[J hN k.toNat,J hN l.toNat,x]] w λe w'=>∃v,e=k8 v/\bV w.heap.size w' v ⟨k,l,r⟩/\Bw w w':=by
 obtain ⟨w1,b7⟩:=Qe ((w.alloc (k7 #[J hN k.toNat,J hN l.toNat,x] 62)).alloc (k7 #[fs Y,S [],hK Y 0 0,J U 0,J hN 0] 208));have hB:(w.alloc (k7 #[J hN k.toNat,J hN l.toNat,x] 62)).heap.size=w.heap.size+1:=by simp
 have aS:Bw w w1:=by rw [<- b7];exact ((kq _ w).alloc (kn _) _).alloc (by simp) _
 have hR:w1.heap[w.heap.size]? =some (k7 #[J hN k.toNat,J hN l.toNat,x] 62 (0,0)):=by rw [<- b7,kd _ _ _ (by simp)];exact ka w _
 have hZ:w1.heap[w.heap.size+1]? =some (k7 #[fs Y,S [],hK Y 0 0,J U 0,J hN 0] 208 (0,0)):=by rw [<- b7, <- hB];exact ka (w.alloc _) _
 have hD:w1.heap.size=w.heap.size+2:=by rw [<- b7];simp
 have er:Hid (∀W,Bw w W->ai 0 W.heap.size W x r):=λW D=>(fm hs (kn _) D).mono (kn _) D.size;have i4:Hid (∀W,Bw w W->ai 0 w.heap.size W x r):=λW D=>hs.kept (λg _ hg=>D.block g hg);have HT:Hid (∀W,Bw w W->lv prog 178 #[.agg #[J hN k.toNat,J hN l.toNat,x]] W λe w'=>e=k8 (S (aP r))/\Bw W w'):=λW D=>mU k l x r W (er W D) L;have HY:Hid (∀W,Bw w W->lv prog 179 #[.agg #[J hN k.toNat,J hN l.toNat,x]] W λe w'=>e=k8 (J U (bz r))/\Bw W w'):=λW D=>wd k l x r W (er W D) L
 have HF:Hid (∀W,Bw w W->lv prog 181 #[.agg #[J hN k.toNat,J hN l.toNat,x],S [49,48,48]] W λe w'=>(∃v,e=k8 (.tuple #[v,fn (firstF r [49,48,48]).isSome])/\∃d,v= .agg #[S ((firstF r [49,48,48]).getD zeroF).tag,S ((firstF r [49,48,48]).getD zeroF).ind,S ((firstF r [49,48,48]).getD zeroF).data,d]/\aA 0 W.heap.size w' d ((firstF r [49,48,48]).getD zeroF).subs)/\Bw W w'):=λW D=>
  nn k l x r [49,48,48] W (er W D) L.1
 have ay:Hid (((firstF r [49,48,48]).getD zeroF).subs.length<=1000000/\(∀s∈((firstF r [49,48,48]).getD zeroF).subs,s.text.length<=1000000)/\(textF (firstF r [49,48,48]) [97]).length<=1000000):=by
  refine ⟨?_,?_,eB L _ _⟩
  · cases h:firstF r [49,48,48] with
    |none=>simp [zeroF]
    |some f=>exact ld (cK f) (L.2 f (gX h))
  · cases h:firstF r [49,48,48] with
    |none=>simp [zeroF]
    |some f=>exact λs hs=>kV (L.2 f (gX h)) hs
 have h0:=Z L;have g7:Hid (br r=bd (textF (firstF r [49,48,48]) [97])):=rfl;obtain ⟨a0,c0,rfl⟩:=hs.shape;have iv:=Z b7;have F:=Z aS;have HR:=Z hR;have HZ:=Z hZ;have y:=Z hD;have ja:=L.1;clear hs L b7 aS hR hZ hD hB;go_enter func129,ntmps129;go_upto_region 1 with fail
 rw [iv.o];obtain ⟨r0,r1,r2⟩:w1.cell? ⟨w.heap.size,0,Y⟩=some (J hN k.toNat)/\w1.cell? ⟨w.heap.size,1,Y⟩=some (J hN l.toNat)/\w1.cell? ⟨w.heap.size,2,Y⟩=some (hK a0 r.length c0):=⟨(aa HR.o 0).trans rfl,(aa HR.o 1).trans rfl,(aa HR.o 2).trans rfl⟩;go_cut [3] (λt wx=>∃T B:Nat,t=k9 (some ⟨T,0,Y⟩)/\Hid (wx.heap[T]? =some (k7 #[fs (some B),S (aP r),hK Y 0 0,J U (bz r),J hN k.toNat] 208 (0,0)))/\Hid (aJ wx B [])/\Hid (w.heap.size+2<=B/\w.heap.size+2<=T)/\Hid (kt (w.heap.size+2) w1 wx))
 case first=>
  have a1:Hid (kt (w.heap.size+2) w1 w1.drew):=(kq _ w1).drew
  have HC:Hid (∀W,kt (w.heap.size+2) w1 W->W.cell? ⟨w.heap.size,0,Y⟩=some (J hN k.toNat)/\W.cell? ⟨w.heap.size,1,Y⟩=some (J hN l.toNat)/\W.cell? ⟨w.heap.size,2,Y⟩=some (hK a0 r.length c0)):=λW D=>
   ⟨(aa ((D.block _ (by omega)).trans HR.o) 0).trans rfl,(aa ((D.block _ (by omega)).trans HR.o) 1).trans rfl,(aa ((D.block _ (by omega)).trans HR.o) 2).trans rfl⟩
  clear r0 r1 r2;refine wT (λW=>kt (w.heap.size+2) w1 W) 999 ?_;refine Qd [1,3,5,6] a1.o HC ?_;obtain ⟨H,ht⟩:=Qe w1.drew;rw [ht] at a1 ⊢;clear ht;have jb:= @run_makeMap prog;refine l0 (i:=0) (j:=2) (k:=8) rfl rfl rfl (by kernel_rfl) rfl rfl rfl (λK o=>?_) (λK o=>?_) (λK o=>?_)
  · skip;go_simp;have bb:Hid (aJ (H.alloc (.map #[] 0)) H.heap.size []/\w.heap.size+2<=H.heap.size):=⟨di _,(by have:=y.o;have:=a1.o.size;omega)⟩;have ac:Hid (kt (w.heap.size+2) w1 (H.alloc (.map #[] 0))):=a1.o.alloc (by have:=y.o;have:=a1.o.size;omega) _;refine o _ _ (λ_=>ac.o) ?_;clear o K;generalize H.alloc (.map #[] 0)=W0 at *;refine bS (i:=2) (j:=8) rfl rfl (by kernel_rfl) rfl rfl (λK o=>?_) (λK o=>?_)
    · skip;go_simp;go_at_call 178;refine kb (HT _ (F.trans (ac.mono (kc _ _)))) ?_;rintro e W1 ⟨rfl,aS⟩;have ad:=Z (btr ac.o aS (by have:=y.o;have:=ac.o.size;omega));have bc:=Z (⟨bb.1.block (aS.block _ bb.1.lt),bb.2⟩:aJ W1 _ []/\_);clear aS;refine o _ _ (λ_=>ad.o) ?_;clear o K;refine bS (i:=4) (j:=8) rfl rfl (by kernel_rfl) rfl rfl (λK o=>?_) (λK o=>?_)
      · skip;go_simp;go_at_call 179;refine kb (HY _ (F.trans (ad.mono (kc _ _)))) ?_;rintro e W2 ⟨rfl,cm⟩;have bA:=Z (btr ad.o cm (by have:=y.o;have:=ad.o.size;omega));have gq:=Z (⟨bc.1.block (cm.block _ bc.1.lt),bc.2⟩:aJ W2 _ []/\_);clear cm;refine o _ _ (λ_=>bA.o) ?_;clear o K;refine Qc [7] bA.o ?_
        refine Dp 8 λK o=>?_;go_simp;have h9:Hid ((W2.alloc (k7 #[fs Y,S [],hK Y 0 0,J U 0,J hN 0] 208)).heap[W2.heap.size]? =some (k7 #[fs Y,S [],hK Y 0 0,J U 0,J hN 0] 208 (0,0))/\w.heap.size+2<=W2.heap.size):=⟨ka _ _,(by have:=y.o;have:=bA.o.size;omega)⟩;have gz:Hid (kt (w.heap.size+2) w1 (W2.alloc (k7 #[fs Y,S [],hK Y 0 0,J U 0,J hN 0] 208))):=bA.o.alloc (by have:=y.o;have:=bA.o.size;omega) _;have ds:=Z (⟨gq.1.alloc _,gq.2⟩:aJ (W2.alloc (k7 #[fs Y,S [],hK Y 0 0,J U 0,J hN 0] 208)) _ []/\_);refine o _ _ (λ_=>gz.o) ?_;clear o K;generalize W2.alloc (k7 #[fs Y,S [],hK Y 0 0,J U 0,J hN 0] 208)=W3 at *;have m:=h9.1;have f0:=ab m 0;have f1:=ab m 1;have O:=ab m 2;have f3:=ab m 3;have f4:=ab m 4;have Q:=(aa m 0).trans rfl;have V:=(aa m 1).trans rfl;have x2:=(aa m 2).trans rfl;have x3:=(aa m 3).trans rfl;have x4:=(aa m 4).trans rfl;clear m;refine Dp 9 λK o=>?_;go_simp;have z:=ed (a:=fs (some H.heap.size)) (b:=S (aP r)) (c:=hK Y 0 0) (d:=J U (bz r)) (e:=J hN k.toNat) h9.o ds.o gz.o _ rfl;refine o _ _ (λ_=>z.2.2.2) ?_;clear o K;refine dN ?_;have u:=Z z;clear z;go_wp2_with fail
        go_meet;exact ⟨_,_,rfl,u.1,u.2.1,u.2.2.1,u.2.2.2⟩
      · skip;go_simp;have a9:Hid ((W1.alloc (k7 #[fs Y,S [],hK Y 0 0,J U 0,J hN 0] 208)).heap[W1.heap.size]? =some (k7 #[fs Y,S [],hK Y 0 0,J U 0,J hN 0] 208 (0,0))/\w.heap.size+2<=W1.heap.size):=⟨ka _ _,(by have:=y.o;have:=ad.o.size;omega)⟩;have cd:Hid (kt (w.heap.size+2) w1 (W1.alloc (k7 #[fs Y,S [],hK Y 0 0,J U 0,J hN 0] 208))):=ad.o.alloc (by have:=y.o;have:=ad.o.size;omega) _;have bt:=Z (⟨bc.1.alloc _,bc.2⟩:aJ (W1.alloc (k7 #[fs Y,S [],hK Y 0 0,J U 0,J hN 0] 208)) _ []/\_);refine o _ _ (λ_=>cd.o) ?_;clear o K;generalize W1.alloc (k7 #[fs Y,S [],hK Y 0 0,J U 0,J hN 0] 208)=W4 at *;refine Dp 4 λK o=>?_;go_simp;go_at_call 179;refine kb (HY _ (F.trans (cd.mono (kc _ _)))) ?_;rintro e W5 ⟨rfl,aT⟩;have ej:=Z (btr cd.o aT (by have:=y.o;have:=cd.o.size;omega));have hY:=Z (⟨bt.1.block (aT.block _ bt.1.lt),bt.2⟩:aJ W5 _ []/\_);have hd:=Z (⟨(aT.block _ (ae a9.1)).trans a9.1,a9.2⟩:W5.heap[_]? =_/\_);clear aT;refine o _ _ (λ_=>ej.o) ?_;clear o K;refine Qc [7] ej.o ?_
        have m:=hd.1;have f0:=ab m 0;have f1:=ab m 1;have O:=ab m 2;have f3:=ab m 3;have f4:=ab m 4;have Q:=(aa m 0).trans rfl;have V:=(aa m 1).trans rfl;have x2:=(aa m 2).trans rfl;have x3:=(aa m 3).trans rfl;have x4:=(aa m 4).trans rfl;clear m;refine Dp 9 λK o=>?_;go_simp;have z:=ed (a:=fs (some H.heap.size)) (b:=S (aP r)) (c:=hK Y 0 0) (d:=J U (bz r)) (e:=J hN k.toNat) hd.o hY.o ej.o _ rfl;refine o _ _ (λ_=>z.2.2.2) ?_;clear o K;refine dN ?_;have u:=Z z;clear z;go_wp2_with fail
        go_meet;exact ⟨_,_,rfl,u.1,u.2.1,u.2.2.1,u.2.2.2⟩
    · skip;go_simp;have fc:Hid ((W0.alloc (k7 #[fs Y,S [],hK Y 0 0,J U 0,J hN 0] 208)).heap[W0.heap.size]? =some (k7 #[fs Y,S [],hK Y 0 0,J U 0,J hN 0] 208 (0,0))/\w.heap.size+2<=W0.heap.size):=⟨ka _ _,(by have:=y.o;have:=ac.o.size;omega)⟩;have ce:Hid (kt (w.heap.size+2) w1 (W0.alloc (k7 #[fs Y,S [],hK Y 0 0,J U 0,J hN 0] 208))):=ac.o.alloc (by have:=y.o;have:=ac.o.size;omega) _;have dy:=Z (⟨bb.1.alloc _,bb.2⟩:aJ (W0.alloc (k7 #[fs Y,S [],hK Y 0 0,J U 0,J hN 0] 208)) _ []/\_);refine o _ _ (λ_=>ce.o) ?_;clear o K;generalize W0.alloc (k7 #[fs Y,S [],hK Y 0 0,J U 0,J hN 0] 208)=W6 at *;refine Dp 2 λK o=>?_;go_simp;go_at_call 178;refine kb (HT _ (F.trans (ce.mono (kc _ _)))) ?_;rintro e W7 ⟨rfl,cy⟩;have cg:=Z (btr ce.o cy (by have:=y.o;have:=ce.o.size;omega));have dz:=Z (⟨dy.1.block (cy.block _ dy.1.lt),dy.2⟩:aJ W7 _ []/\_);have fl:=Z (⟨(cy.block _ (ae fc.1)).trans fc.1,fc.2⟩:W7.heap[_]? =_/\_);clear cy;refine o _ _ (λ_=>cg.o) ?_;clear o K;refine Dp 4 λK o=>?_;go_simp;go_at_call 179;refine kb (HY _ (F.trans (cg.mono (kc _ _)))) ?_;rintro e W8 ⟨rfl,cz⟩;have em:=Z (btr cg.o cz (by have:=y.o;have:=cg.o.size;omega));have i0:=Z (⟨dz.1.block (cz.block _ dz.1.lt),dz.2⟩:aJ W8 _ []/\_);have he:=Z (⟨(cz.block _ (ae fl.1)).trans fl.1,fl.2⟩:W8.heap[_]? =_/\_);clear cz;refine o _ _ (λ_=>em.o) ?_;clear o K;refine Qc [7] em.o ?_
      have m:=he.1;have f0:=ab m 0;have f1:=ab m 1;have O:=ab m 2;have f3:=ab m 3;have f4:=ab m 4;have Q:=(aa m 0).trans rfl;have V:=(aa m 1).trans rfl;have x2:=(aa m 2).trans rfl;have x3:=(aa m 3).trans rfl;have x4:=(aa m 4).trans rfl;clear m;refine Dp 9 λK o=>?_;go_simp;have z:=ed (a:=fs (some H.heap.size)) (b:=S (aP r)) (c:=hK Y 0 0) (d:=J U (bz r)) (e:=J hN k.toNat) he.o i0.o em.o _ rfl;refine o _ _ (λ_=>z.2.2.2) ?_;clear o K;refine dN ?_;have u:=Z z;clear z;go_wp2_with fail
      go_meet;exact ⟨_,_,rfl,u.1,u.2.1,u.2.2.1,u.2.2.2⟩
  · skip;go_simp;go_at_call 178;refine kb (HT _ (F.trans (a1.mono (kc _ _)))) ?_;rintro e N ⟨rfl,hx⟩;have a3:=Z (btr a1.o hx (by have:=y.o;have:=a1.o.size;omega));clear hx;refine o _ _ (λ_=>a3.o) ?_;clear o K;refine l0 (i:=0) (j:=4) (k:=8) rfl rfl rfl (by kernel_rfl) rfl rfl rfl (λK o=>?_) (λK o=>?_) (λK o=>?_)
    · skip;go_simp;have bk:Hid (aJ (N.alloc (.map #[] 0)) N.heap.size []/\w.heap.size+2<=N.heap.size):=⟨di _,(by have:=y.o;have:=a3.o.size;omega)⟩;have al:Hid (kt (w.heap.size+2) w1 (N.alloc (.map #[] 0))):=a3.o.alloc (by have:=y.o;have:=a3.o.size;omega) _;refine o _ _ (λ_=>al.o) ?_;clear o K;generalize N.alloc (.map #[] 0)=W10 at *;refine bS (i:=4) (j:=8) rfl rfl (by kernel_rfl) rfl rfl (λK o=>?_) (λK o=>?_)
      · skip;go_simp;go_at_call 179;refine kb (HY _ (F.trans (al.mono (kc _ _)))) ?_;rintro e aC ⟨rfl,fp⟩;have bv:=Z (btr al.o fp (by have:=y.o;have:=al.o.size;omega));have gn:=Z (⟨bk.1.block (fp.block _ bk.1.lt),bk.2⟩:aJ aC _ []/\_);clear fp;refine o _ _ (λ_=>bv.o) ?_;clear o K;refine Qc [7] bv.o ?_
        refine Dp 8 λK o=>?_;go_simp;have h2:Hid ((aC.alloc (k7 #[fs Y,S [],hK Y 0 0,J U 0,J hN 0] 208)).heap[aC.heap.size]? =some (k7 #[fs Y,S [],hK Y 0 0,J U 0,J hN 0] 208 (0,0))/\w.heap.size+2<=aC.heap.size):=⟨ka _ _,(by have:=y.o;have:=bv.o.size;omega)⟩;have gx:Hid (kt (w.heap.size+2) w1 (aC.alloc (k7 #[fs Y,S [],hK Y 0 0,J U 0,J hN 0] 208))):=bv.o.alloc (by have:=y.o;have:=bv.o.size;omega) _;have hL:=Z (⟨gn.1.alloc _,gn.2⟩:aJ (aC.alloc (k7 #[fs Y,S [],hK Y 0 0,J U 0,J hN 0] 208)) _ []/\_);refine o _ _ (λ_=>gx.o) ?_;clear o K;generalize aC.alloc (k7 #[fs Y,S [],hK Y 0 0,J U 0,J hN 0] 208)=W12 at *;have m:=h2.1;have f0:=ab m 0;have f1:=ab m 1;have O:=ab m 2;have f3:=ab m 3;have f4:=ab m 4;have Q:=(aa m 0).trans rfl;have V:=(aa m 1).trans rfl;have x2:=(aa m 2).trans rfl;have x3:=(aa m 3).trans rfl;have x4:=(aa m 4).trans rfl;clear m;refine Dp 9 λK o=>?_;go_simp;have z:=ed (a:=fs (some N.heap.size)) (b:=S (aP r)) (c:=hK Y 0 0) (d:=J U (bz r)) (e:=J hN k.toNat) h2.o hL.o gx.o _ rfl;refine o _ _ (λ_=>z.2.2.2) ?_;clear o K;refine dN ?_;have u:=Z z;clear z;go_wp2_with fail
        go_meet;exact ⟨_,_,rfl,u.1,u.2.1,u.2.2.1,u.2.2.2⟩
      · skip;go_simp;have es:Hid ((W10.alloc (k7 #[fs Y,S [],hK Y 0 0,J U 0,J hN 0] 208)).heap[W10.heap.size]? =some (k7 #[fs Y,S [],hK Y 0 0,J U 0,J hN 0] 208 (0,0))/\w.heap.size+2<=W10.heap.size):=⟨ka _ _,(by have:=y.o;have:=al.o.size;omega)⟩;have c3:Hid (kt (w.heap.size+2) w1 (W10.alloc (k7 #[fs Y,S [],hK Y 0 0,J U 0,J hN 0] 208))):=al.o.alloc (by have:=y.o;have:=al.o.size;omega) _;have d8:=Z (⟨bk.1.alloc _,bk.2⟩:aJ (W10.alloc (k7 #[fs Y,S [],hK Y 0 0,J U 0,J hN 0] 208)) _ []/\_);refine o _ _ (λ_=>c3.o) ?_;clear o K;generalize W10.alloc (k7 #[fs Y,S [],hK Y 0 0,J U 0,J hN 0] 208)=W13 at *;refine Dp 4 λK o=>?_;go_simp;go_at_call 179;refine kb (HY _ (F.trans (c3.mono (kc _ _)))) ?_;rintro e hi ⟨rfl,cl⟩;have e4:=Z (btr c3.o cl (by have:=y.o;have:=c3.o.size;omega));have hM:=Z (⟨d8.1.block (cl.block _ d8.1.lt),d8.2⟩:aJ hi _ []/\_);have h3:=Z (⟨(cl.block _ (ae es.1)).trans es.1,es.2⟩:hi.heap[_]? =_/\_);clear cl;refine o _ _ (λ_=>e4.o) ?_;clear o K;refine Qc [7] e4.o ?_
        have m:=h3.1;have f0:=ab m 0;have f1:=ab m 1;have O:=ab m 2;have f3:=ab m 3;have f4:=ab m 4;have Q:=(aa m 0).trans rfl;have V:=(aa m 1).trans rfl;have x2:=(aa m 2).trans rfl;have x3:=(aa m 3).trans rfl;have x4:=(aa m 4).trans rfl;clear m;refine Dp 9 λK o=>?_;go_simp;have z:=ed (a:=fs (some N.heap.size)) (b:=S (aP r)) (c:=hK Y 0 0) (d:=J U (bz r)) (e:=J hN k.toNat) h3.o hM.o e4.o _ rfl;refine o _ _ (λ_=>z.2.2.2) ?_;clear o K;refine dN ?_;have u:=Z z;clear z;go_wp2_with fail
        go_meet;exact ⟨_,_,rfl,u.1,u.2.1,u.2.2.1,u.2.2.2⟩
    · skip;go_simp;go_at_call 179;refine kb (HY _ (F.trans (a3.mono (kc _ _)))) ?_;rintro e a2 ⟨rfl,hu⟩;have ao:=Z (btr a3.o hu (by have:=y.o;have:=a3.o.size;omega));clear hu;refine o _ _ (λ_=>ao.o) ?_;clear o K;refine bS (i:=0) (j:=8) rfl rfl (by kernel_rfl) rfl rfl (λK o=>?_) (λK o=>?_)
      · skip;go_simp;have gp:Hid (aJ (a2.alloc (.map #[] 0)) a2.heap.size []/\w.heap.size+2<=a2.heap.size):=⟨di _,(by have:=y.o;have:=ao.o.size;omega)⟩;have bw:Hid (kt (w.heap.size+2) w1 (a2.alloc (.map #[] 0))):=ao.o.alloc (by have:=y.o;have:=ao.o.size;omega) _;refine o _ _ (λ_=>bw.o) ?_;clear o K;generalize a2.alloc (.map #[] 0)=W16 at *;refine Qc [7] bw.o ?_
        refine Dp 8 λK o=>?_;go_simp;have h4:Hid ((W16.alloc (k7 #[fs Y,S [],hK Y 0 0,J U 0,J hN 0] 208)).heap[W16.heap.size]? =some (k7 #[fs Y,S [],hK Y 0 0,J U 0,J hN 0] 208 (0,0))/\w.heap.size+2<=W16.heap.size):=⟨ka _ _,(by have:=y.o;have:=bw.o.size;omega)⟩;have gy:Hid (kt (w.heap.size+2) w1 (W16.alloc (k7 #[fs Y,S [],hK Y 0 0,J U 0,J hN 0] 208))):=bw.o.alloc (by have:=y.o;have:=bw.o.size;omega) _;have hO:=Z (⟨gp.1.alloc _,gp.2⟩:aJ (W16.alloc (k7 #[fs Y,S [],hK Y 0 0,J U 0,J hN 0] 208)) _ []/\_);refine o _ _ (λ_=>gy.o) ?_;clear o K;generalize W16.alloc (k7 #[fs Y,S [],hK Y 0 0,J U 0,J hN 0] 208)=W17 at *;have m:=h4.1;have f0:=ab m 0;have f1:=ab m 1;have O:=ab m 2;have f3:=ab m 3;have f4:=ab m 4;have Q:=(aa m 0).trans rfl;have V:=(aa m 1).trans rfl;have x2:=(aa m 2).trans rfl;have x3:=(aa m 3).trans rfl;have x4:=(aa m 4).trans rfl;clear m;refine Dp 9 λK o=>?_;go_simp;have z:=ed (a:=fs (some a2.heap.size)) (b:=S (aP r)) (c:=hK Y 0 0) (d:=J U (bz r)) (e:=J hN k.toNat) h4.o hO.o gy.o _ rfl;refine o _ _ (λ_=>z.2.2.2) ?_;clear o K;refine dN ?_;have u:=Z z;clear z;go_wp2_with fail
        go_meet;exact ⟨_,_,rfl,u.1,u.2.1,u.2.2.1,u.2.2.2⟩
      · skip;go_simp;have ex:Hid ((a2.alloc (k7 #[fs Y,S [],hK Y 0 0,J U 0,J hN 0] 208)).heap[a2.heap.size]? =some (k7 #[fs Y,S [],hK Y 0 0,J U 0,J hN 0] 208 (0,0))/\w.heap.size+2<=a2.heap.size):=⟨ka _ _,(by have:=y.o;have:=ao.o.size;omega)⟩;have c4:Hid (kt (w.heap.size+2) w1 (a2.alloc (k7 #[fs Y,S [],hK Y 0 0,J U 0,J hN 0] 208))):=ao.o.alloc (by have:=y.o;have:=ao.o.size;omega) _;refine o _ _ (λ_=>c4.o) ?_;clear o K;generalize a2.alloc (k7 #[fs Y,S [],hK Y 0 0,J U 0,J hN 0] 208)=W18 at *;refine Dp 0 λK o=>?_;go_simp;have hP:Hid (aJ (W18.alloc (.map #[] 0)) W18.heap.size []/\w.heap.size+2<=W18.heap.size):=⟨di _,(by have:=y.o;have:=c4.o.size;omega)⟩;have e5:Hid (kt (w.heap.size+2) w1 (W18.alloc (.map #[] 0))):=c4.o.alloc (by have:=y.o;have:=c4.o.size;omega) _;have h5:=Z (⟨(kd W18 (.map #[] 0) _ (ae ex.1)).trans ex.1,ex.2⟩:(W18.alloc (.map #[] 0)).heap[_]? =_/\_);refine o _ _ (λ_=>e5.o) ?_;clear o K;generalize W18.alloc (.map #[] 0)=W19 at *;refine Qc [7] e5.o ?_
        have m:=h5.1;have f0:=ab m 0;have f1:=ab m 1;have O:=ab m 2;have f3:=ab m 3;have f4:=ab m 4;have Q:=(aa m 0).trans rfl;have V:=(aa m 1).trans rfl;have x2:=(aa m 2).trans rfl;have x3:=(aa m 3).trans rfl;have x4:=(aa m 4).trans rfl;clear m;refine Dp 9 λK o=>?_;go_simp;have z:=ed (a:=fs (some W18.heap.size)) (b:=S (aP r)) (c:=hK Y 0 0) (d:=J U (bz r)) (e:=J hN k.toNat) h5.o hP.o e5.o _ rfl;refine o _ _ (λ_=>z.2.2.2) ?_;clear o K;refine dN ?_;have u:=Z z;clear z;go_wp2_with fail
        go_meet;exact ⟨_,_,rfl,u.1,u.2.1,u.2.2.1,u.2.2.2⟩
    · skip;go_simp;have b3:Hid ((N.alloc (k7 #[fs Y,S [],hK Y 0 0,J U 0,J hN 0] 208)).heap[N.heap.size]? =some (k7 #[fs Y,S [],hK Y 0 0,J U 0,J hN 0] 208 (0,0))/\w.heap.size+2<=N.heap.size):=⟨ka _ _,(by have:=y.o;have:=a3.o.size;omega)⟩;have au:Hid (kt (w.heap.size+2) w1 (N.alloc (k7 #[fs Y,S [],hK Y 0 0,J U 0,J hN 0] 208))):=a3.o.alloc (by have:=y.o;have:=a3.o.size;omega) _;refine o _ _ (λ_=>au.o) ?_;clear o K;generalize N.alloc (k7 #[fs Y,S [],hK Y 0 0,J U 0,J hN 0] 208)=W20 at *;refine bS (i:=0) (j:=4) rfl rfl (by kernel_rfl) rfl rfl (λK o=>?_) (λK o=>?_)
      · skip;go_simp;have d9:Hid (aJ (W20.alloc (.map #[] 0)) W20.heap.size []/\w.heap.size+2<=W20.heap.size):=⟨di _,(by have:=y.o;have:=au.o.size;omega)⟩;have c5:Hid (kt (w.heap.size+2) w1 (W20.alloc (.map #[] 0))):=au.o.alloc (by have:=y.o;have:=au.o.size;omega) _;have eQ:=Z (⟨(kd W20 (.map #[] 0) _ (ae b3.1)).trans b3.1,b3.2⟩:(W20.alloc (.map #[] 0)).heap[_]? =_/\_);refine o _ _ (λ_=>c5.o) ?_;clear o K;generalize W20.alloc (.map #[] 0)=W21 at *;refine Dp 4 λK o=>?_;go_simp;go_at_call 179;refine kb (HY _ (F.trans (c5.mono (kc _ _)))) ?_;rintro e hj ⟨rfl,cp⟩;have e6:=Z (btr c5.o cp (by have:=y.o;have:=c5.o.size;omega));have hQ:=Z (⟨d9.1.block (cp.block _ d9.1.lt),d9.2⟩:aJ hj _ []/\_);have h6:=Z (⟨(cp.block _ (ae eQ.1)).trans eQ.1,eQ.2⟩:hj.heap[_]? =_/\_);clear cp;refine o _ _ (λ_=>e6.o) ?_;clear o K;refine Qc [7] e6.o ?_
        have m:=h6.1;have f0:=ab m 0;have f1:=ab m 1;have O:=ab m 2;have f3:=ab m 3;have f4:=ab m 4;have Q:=(aa m 0).trans rfl;have V:=(aa m 1).trans rfl;have x2:=(aa m 2).trans rfl;have x3:=(aa m 3).trans rfl;have x4:=(aa m 4).trans rfl;clear m;refine Dp 9 λK o=>?_;go_simp;have z:=ed (a:=fs (some W20.heap.size)) (b:=S (aP r)) (c:=hK Y 0 0) (d:=J U (bz r)) (e:=J hN k.toNat) h6.o hQ.o e6.o _ rfl;refine o _ _ (λ_=>z.2.2.2) ?_;clear o K;refine dN ?_;have u:=Z z;clear z;go_wp2_with fail
        go_meet;exact ⟨_,_,rfl,u.1,u.2.1,u.2.2.1,u.2.2.2⟩
      · skip;go_simp;go_at_call 179;refine kb (HY _ (F.trans (au.mono (kc _ _)))) ?_;rintro e a5 ⟨rfl,fr⟩;have c6:=Z (btr au.o fr (by have:=y.o;have:=au.o.size;omega));have f5:=Z (⟨(fr.block _ (ae b3.1)).trans b3.1,b3.2⟩:a5.heap[_]? =_/\_);clear fr;refine o _ _ (λ_=>c6.o) ?_;clear o K;refine Dp 0 λK o=>?_;go_simp;have hS:Hid (aJ (a5.alloc (.map #[] 0)) a5.heap.size []/\w.heap.size+2<=a5.heap.size):=⟨di _,(by have:=y.o;have:=c6.o.size;omega)⟩;have e7:Hid (kt (w.heap.size+2) w1 (a5.alloc (.map #[] 0))):=c6.o.alloc (by have:=y.o;have:=c6.o.size;omega) _;have h7:=Z (⟨(kd a5 (.map #[] 0) _ (ae f5.1)).trans f5.1,f5.2⟩:(a5.alloc (.map #[] 0)).heap[_]? =_/\_);refine o _ _ (λ_=>e7.o) ?_;clear o K;generalize a5.alloc (.map #[] 0)=W24 at *;refine Qc [7] e7.o ?_
        have m:=h7.1;have f0:=ab m 0;have f1:=ab m 1;have O:=ab m 2;have f3:=ab m 3;have f4:=ab m 4;have Q:=(aa m 0).trans rfl;have V:=(aa m 1).trans rfl;have x2:=(aa m 2).trans rfl;have x3:=(aa m 3).trans rfl;have x4:=(aa m 4).trans rfl;clear m;refine Dp 9 λK o=>?_;go_simp;have z:=ed (a:=fs (some a5.heap.size)) (b:=S (aP r)) (c:=hK Y 0 0) (d:=J U (bz r)) (e:=J hN k.toNat) h7.o hS.o e7.o _ rfl;refine o _ _ (λ_=>z.2.2.2) ?_;clear o K;refine dN ?_;have u:=Z z;clear z;go_wp2_with fail
        go_meet;exact ⟨_,_,rfl,u.1,u.2.1,u.2.2.1,u.2.2.2⟩
  · skip;go_simp;have b4:Hid ((H.alloc (k7 #[fs Y,S [],hK Y 0 0,J U 0,J hN 0] 208)).heap[H.heap.size]? =some (k7 #[fs Y,S [],hK Y 0 0,J U 0,J hN 0] 208 (0,0))/\w.heap.size+2<=H.heap.size):=⟨ka _ _,(by have:=y.o;have:=a1.o.size;omega)⟩;have av:Hid (kt (w.heap.size+2) w1 (H.alloc (k7 #[fs Y,S [],hK Y 0 0,J U 0,J hN 0] 208))):=a1.o.alloc (by have:=y.o;have:=a1.o.size;omega) _;refine o _ _ (λ_=>av.o) ?_;clear o K;generalize H.alloc (k7 #[fs Y,S [],hK Y 0 0,J U 0,J hN 0] 208)=W25 at *;refine bS (i:=0) (j:=2) rfl rfl (by kernel_rfl) rfl rfl (λK o=>?_) (λK o=>?_)
    · skip;go_simp;have dk:Hid (aJ (W25.alloc (.map #[] 0)) W25.heap.size []/\w.heap.size+2<=W25.heap.size):=⟨di _,(by have:=y.o;have:=av.o.size;omega)⟩;have c7:Hid (kt (w.heap.size+2) w1 (W25.alloc (.map #[] 0))):=av.o.alloc (by have:=y.o;have:=av.o.size;omega) _;have f6:=Z (⟨(kd W25 (.map #[] 0) _ (ae b4.1)).trans b4.1,b4.2⟩:(W25.alloc (.map #[] 0)).heap[_]? =_/\_);refine o _ _ (λ_=>c7.o) ?_;clear o K;generalize W25.alloc (.map #[] 0)=W26 at *;refine Dp 2 λK o=>?_;go_simp;go_at_call 178;refine kb (HT _ (F.trans (c7.mono (kc _ _)))) ?_;rintro e hk ⟨rfl,cq⟩;have c9:=Z (btr c7.o cq (by have:=y.o;have:=c7.o.size;omega));have dr:=Z (⟨dk.1.block (cq.block _ dk.1.lt),dk.2⟩:aJ hk _ []/\_);have f7:=Z (⟨(cq.block _ (ae f6.1)).trans f6.1,f6.2⟩:hk.heap[_]? =_/\_);clear cq;refine o _ _ (λ_=>c9.o) ?_;clear o K;refine Dp 4 λK o=>?_;go_simp;go_at_call 179;refine kb (HY _ (F.trans (c9.mono (kc _ _)))) ?_;rintro e hl ⟨rfl,cu⟩;have e8:=Z (btr c9.o cu (by have:=y.o;have:=c9.o.size;omega));have hV:=Z (⟨dr.1.block (cu.block _ dr.1.lt),dr.2⟩:aJ hl _ []/\_);have h8:=Z (⟨(cu.block _ (ae f7.1)).trans f7.1,f7.2⟩:hl.heap[_]? =_/\_);clear cu;refine o _ _ (λ_=>e8.o) ?_;clear o K;refine Qc [7] e8.o ?_
      have m:=h8.1;have f0:=ab m 0;have f1:=ab m 1;have O:=ab m 2;have f3:=ab m 3;have f4:=ab m 4;have Q:=(aa m 0).trans rfl;have V:=(aa m 1).trans rfl;have x2:=(aa m 2).trans rfl;have x3:=(aa m 3).trans rfl;have x4:=(aa m 4).trans rfl;clear m;refine Dp 9 λK o=>?_;go_simp;have z:=ed (a:=fs (some W25.heap.size)) (b:=S (aP r)) (c:=hK Y 0 0) (d:=J U (bz r)) (e:=J hN k.toNat) h8.o hV.o e8.o _ rfl;refine o _ _ (λ_=>z.2.2.2) ?_;clear o K;refine dN ?_;have u:=Z z;clear z;go_wp2_with fail
      go_meet;exact ⟨_,_,rfl,u.1,u.2.1,u.2.2.1,u.2.2.2⟩
    · skip;go_simp;go_at_call 178;refine kb (HT _ (F.trans (av.mono (kc _ _)))) ?_;rintro e a6 ⟨rfl,ft⟩;have ax:=Z (btr av.o ft (by have:=y.o;have:=av.o.size;omega));have b5:=Z (⟨(ft.block _ (ae b4.1)).trans b4.1,b4.2⟩:a6.heap[_]? =_/\_);clear ft;refine o _ _ (λ_=>ax.o) ?_;clear o K;refine bS (i:=0) (j:=4) rfl rfl (by kernel_rfl) rfl rfl (λK o=>?_) (λK o=>?_)
      · skip;go_simp;have dx:Hid (aJ (a6.alloc (.map #[] 0)) a6.heap.size []/\w.heap.size+2<=a6.heap.size):=⟨di _,(by have:=y.o;have:=ax.o.size;omega)⟩;have cb:Hid (kt (w.heap.size+2) w1 (a6.alloc (.map #[] 0))):=ax.o.alloc (by have:=y.o;have:=ax.o.size;omega) _;have f8:=Z (⟨(kd a6 (.map #[] 0) _ (ae b5.1)).trans b5.1,b5.2⟩:(a6.alloc (.map #[] 0)).heap[_]? =_/\_);refine o _ _ (λ_=>cb.o) ?_;clear o K;generalize a6.alloc (.map #[] 0)=W30 at *;refine Dp 4 λK o=>?_;go_simp;go_at_call 179;refine kb (HY _ (F.trans (cb.mono (kc _ _)))) ?_;rintro e hn ⟨rfl,cv⟩;have e9:=Z (btr cb.o cv (by have:=y.o;have:=cb.o.size;omega));have hW:=Z (⟨dx.1.block (cv.block _ dx.1.lt),dx.2⟩:aJ hn _ []/\_);have ha:=Z (⟨(cv.block _ (ae f8.1)).trans f8.1,f8.2⟩:hn.heap[_]? =_/\_);clear cv;refine o _ _ (λ_=>e9.o) ?_;clear o K;refine Qc [7] e9.o ?_
        have m:=ha.1;have f0:=ab m 0;have f1:=ab m 1;have O:=ab m 2;have f3:=ab m 3;have f4:=ab m 4;have Q:=(aa m 0).trans rfl;have V:=(aa m 1).trans rfl;have x2:=(aa m 2).trans rfl;have x3:=(aa m 3).trans rfl;have x4:=(aa m 4).trans rfl;clear m;refine Dp 9 λK o=>?_;go_simp;have z:=ed (a:=fs (some a6.heap.size)) (b:=S (aP r)) (c:=hK Y 0 0) (d:=J U (bz r)) (e:=J hN k.toNat) ha.o hW.o e9.o _ rfl;refine o _ _ (λ_=>z.2.2.2) ?_;clear o K;refine dN ?_;have u:=Z z;clear z;go_wp2_with fail
        go_meet;exact ⟨_,_,rfl,u.1,u.2.1,u.2.2.1,u.2.2.2⟩
      · skip;go_simp;go_at_call 179;refine kb (HY _ (F.trans (ax.mono (kc _ _)))) ?_;rintro e a7 ⟨rfl,fx⟩;have cc:=Z (btr ax.o fx (by have:=y.o;have:=ax.o.size;omega));have f9:=Z (⟨(fx.block _ (ae b5.1)).trans b5.1,b5.2⟩:a7.heap[_]? =_/\_);clear fx;refine o _ _ (λ_=>cc.o) ?_;clear o K;refine Dp 0 λK o=>?_;go_simp;have hX:Hid (aJ (a7.alloc (.map #[] 0)) a7.heap.size []/\w.heap.size+2<=a7.heap.size):=⟨di _,(by have:=y.o;have:=cc.o.size;omega)⟩;have eg:Hid (kt (w.heap.size+2) w1 (a7.alloc (.map #[] 0))):=cc.o.alloc (by have:=y.o;have:=cc.o.size;omega) _;have hc:=Z (⟨(kd a7 (.map #[] 0) _ (ae f9.1)).trans f9.1,f9.2⟩:(a7.alloc (.map #[] 0)).heap[_]? =_/\_);refine o _ _ (λ_=>eg.o) ?_;clear o K;generalize a7.alloc (.map #[] 0)=W33 at *;refine Qc [7] eg.o ?_
        have m:=hc.1;have f0:=ab m 0;have f1:=ab m 1;have O:=ab m 2;have f3:=ab m 3;have f4:=ab m 4;have Q:=(aa m 0).trans rfl;have V:=(aa m 1).trans rfl;have x2:=(aa m 2).trans rfl;have x3:=(aa m 3).trans rfl;have x4:=(aa m 4).trans rfl;clear m;refine Dp 9 λK o=>?_;go_simp;have z:=ed (a:=fs (some a7.heap.size)) (b:=S (aP r)) (c:=hK Y 0 0) (d:=J U (bz r)) (e:=J hN k.toNat) hc.o hX.o eg.o _ rfl;refine o _ _ (λ_=>z.2.2.2) ?_;clear o K;refine dN ?_;have u:=Z z;clear z;go_wp2_with fail
        go_meet;exact ⟨_,_,rfl,u.1,u.2.1,u.2.2.1,u.2.2.2⟩
 case rest=>
  obtain ⟨T,B,rfl,hf,g8,b6,bY⟩:=hcut;have g4:OfS (w.heap.size+2) w1 T B #[fs (some B),S (aP r),hK Y 0 0,J U (bz r),J hN k.toNat] wc []:=⟨bY.o,hf.o,g8.o,b6.o.1,b6.o.2,by have:=bY.o.size;have:=y.o;omega⟩;obtain ⟨cs,fy⟩:∃cs:Array ky, #[fs (some B),S (aP r),hK Y 0 0,J U (bz r),J hN k.toNat]=cs:=⟨_,rfl⟩;rw [fy] at g4;have g9:=Z fy;have i8:=Z g4;have hr:=(bY.o.block w.heap.size (by omega)).trans HR.o;have s2:wc.cell? ⟨w.heap.size,2,Y⟩=some (hK a0 r.length c0):=(aa hr 2).trans rfl;have gf:Hid (∀W bs,OfS (w.heap.size+2) w1 T B cs W bs->Bw w W):=λW bs h=>F.o.trans (h.b.mono (by omega));clear g4 fy hr hf g8 bY r0 r1 r2;go_wp2_with fail
  go_loopw [23] (λi wr=>∃q:Nat,q<=r.length/\i=J U q/\Hid (OfS (w.heap.size+2) w1 T B cs wr (booksR (r.take q)))) (λi _=>r.length - (intOf i).toNat)
  case atStart=>exact ⟨0,Nat.zero_le _,rfl,i8.o.same (by simp [booksR])⟩
  case round=>
   obtain ⟨q,hq,rfl,b2⟩:=hrel;by_cases hlt:q<r.length
   · have b0:=gf _ _ b2.o;have hz:ai 0 w.heap.size wr (hK a0 r.length c0) r:=i4 _ b0;have k4:w.heap.size<=wr.heap.size:=b0.size;obtain ⟨b,k5,iS,d,hv,aS,cm,e0,e1,e2,e3,b1⟩:=hz.field q hlt;cases hv;have L:=h0.2 _ (List.getElem_mem hlt);have HN:=Z (lW r q hlt);rw [lY] at HN;have k2:r[q].subs.length<=1000000:=ld (cK _) L;have i6:Hid (∀s∈r[q].subs,s.text.length<=1000000):=λs hs=>kV L hs;obtain ⟨da,dc,rfl,_⟩:=id b1;have ib:=Z b1;clear b1 hz L b0;generalize r[q].tag=TG at *;generalize r[q].ind=IN at *;generalize r[q].data=DT at *;generalize r[q].subs=ss at *;obtain ⟨wq,d3⟩:=Qe (wr.alloc (k7 #[S TG,S IN,S DT,hK da ss.length dc] 123));have cP:Bw wr wq:=by rw [<- d3];exact (kq _ wr).alloc (kn _) _
     have ho:wq.heap[wr.heap.size]? =some (k7 #[S TG,S IN,S DT,hK da ss.length dc] 123 (0,0)):=by rw [<- d3];exact ka wr _
     have ia:=Z (b2.below cP);have it:Hid (aA 0 w.heap.size wq (hK da ss.length dc) ss):=ib.o.kept (λk _ h=>cP.block k (by omega));have iD:=Z d3;have d7:=Z ho;have hG:=Z cP;obtain ⟨R,hR⟩:=Qe wr.heap.size;clear d3 ho cP;go_upto_region 5 with fail
     rw [iD.o];rw [hR] at d7;have gP:=Z hR;clear hR;have g0:wq.cell? ⟨R,3,Y⟩=some (hK da ss.length dc):=(aa d7.o 3).trans rfl;go_wp2_with fail
     go_loopw [30] (λj wx=>∃p:Nat,p<=ss.length/\j=J U p/\Hid (OfS (w.heap.size+2) w1 T B cs wx (booksR (r.take q)++bookS TG (ss.take p)))/\Hid (wx.heap[R]? =some (k7 #[S TG,S IN,S DT,hK da ss.length dc] 123 (0,0)))/\Hid (aA 0 w.heap.size wx (hK da ss.length dc) ss)/\R<=wx.heap.size/\w.heap.size<=R) (λj _=>ss.length - (intOf j).toNat)
     case atStart=>exact ⟨0,Nat.zero_le _,rfl,ia.o.same (by unfold bookS;split<;>simp),d7,it,by have:=hG.o.size;have:=gP.o;omega,by have:=gP.o;omega⟩
     case round=>
      obtain ⟨p,hp,rfl,a4,G,bB,j2,d2⟩:=hrel;by_cases hlp:p<ss.length
      · obtain ⟨b',k6,j0,hv,_,j3,d0,d1⟩:=bB.sub p hlp;cases hv;have c2:=Z (lX TG ss p hlp);have k3:=i6 _ (List.getElem_mem hlp);generalize ss[p].code=C at *;generalize ss[p].text=X at *;have j4:b'<wr.heap.size:=by omega
        have gO:=Z (fQ r q h0.o);have gQ:Hid ((bookS TG (ss.take p)).length<=1000000):=by have h1:=jM TG (ss.take p);rw [lf] at h1;unfold Hid;omega
        obtain ⟨LB,ch⟩:=Qe (booksR (r.take q)++bookS TG (ss.take p));have j1:LB.length<=2000000000000:=by have:=gO.o;have:=gQ.o;rw [<- ch,kz];omega
        rw [ch] at a4;have c1:=Z ch;clear ch gO gQ;cases hI:isbnR X with
        |none=>
         have b9:Hid (∀W,lv prog 180 #[S X] W λe w'=>e=k8 (.tuple #[S [],fn false])/\Bw W w'):=λW=>by have:=jd X W (by omega);rw [hI] at this;exact this
         have HE:Hid (booksR (r.take q)++bookS TG (ss.take (p+1))=LB):=by unfold Hid;rw [c2.o,hI, <- c1.o];split<;>simp
         clear hI;go_wp2_with (go_at_call 180;((with_reducible refine kb (b9.o _) ?_);rintro e M ⟨rfl,E⟩;have I:Bw wr M:=(ba wr _).trans (E.mono (by simp));have A:=Z I;clear I E))
         go_roundw
         case rel=>exact ⟨p+1,hlp,by go_num,(a4.o.below A.o).same HE.o,(A.o.block _ (ae G.o)).trans G.o,bB.o.kept (λg _ hg=>A.o.block g (by omega)),by have:=A.o.size;omega,d2⟩
         case measure=>simp [intOf];omega
        |some n=>
         have b9:Hid (∀W,lv prog 180 #[S X] W λe w'=>e=k8 (.tuple #[S n,fn true])/\Bw W w'):=λW=>by have:=jd X W (by omega);rw [hI] at this;exact this
         have k1:n.length<=13:=eR hI;by_cases m:TG=[48,50,48]
         · subst m;by_cases hC:C=97
           · have iF:((C.toNat:Int)==97)=true:=by rw [hC];rfl
             have HE:Hid (booksR (r.take q)++bookS [48,50,48] (ss.take (p+1))=LB++[n]):=by unfold Hid;rw [c2.o,hI, <- c1.o,if_pos ⟨rfl,hC⟩];simp
             obtain ⟨lb,g1,g2,g3⟩:=a4.k;have gb:=Z g1;have hJ:=Z g2;have b8:Hid (∀W,Bw wr W->W.cell? ⟨T,0,Y⟩=some (fs (some B))/\W.cell? ⟨R,0,Y⟩=some (S [48,50,48])):=λW D=>⟨by rw [aa ((D.block _ (ae a4.o.t)).trans a4.o.t), <- g9.o];rfl,(aa ((D.block _ (ae G.o)).trans G.o) 0).trans rfl⟩
             clear hI hC g1 g2
             go_wp2_with (first
              |(go_at_call 180;((with_reducible refine kb (b9.o _) ?_);rintro e M ⟨rfl,E⟩;have I:Bw wr M:=(ba wr _).trans (E.mono (by simp));obtain ⟨t0,r0⟩:=b8.o M I;have z0:=((aE E).1 wr.heap.size 0 (by simp));have ds:Hid (ak rY M B (lb.map λs=>(s,fn true))):=gb.o.block (I.block _ gb.o.lt);have A:=Z I;clear I E))
              |(at_mapUpdate;refine tv _ rfl _ _ _ 206 rfl 4 underlying206 B _ rfl ds.o ?_ n ?_ rfl (fn true) rfl ?_;(focus (rw [List.length_map];unfold maxLen;omega));(focus (show n.length<=maxLen;unfold maxLen;omega));intro w4 hy hA;have bt:=Z hy;have a9:=Z (dY hA);clear hy hA))
             go_roundw
             case rel=> obtain ⟨l',e1,e2,e3⟩:=wR lb n;have hm:=bt.o;rw [e1] at hm;have cQ:OfS (w.heap.size+2) w1 T B cs w4 (LB++[n]):=(a4.o.below A.o).put a9.o ⟨l',hm,λs=>by rw [e2,hJ.o];simp,by simp;omega⟩;have iN:=nd ((a4.below A.o).k) ((A.block _ (ae G.o)).trans G.o);exact ⟨p+1,hlp,by go_num,cQ.same HE.o,(a9.o.block _ iN).trans ((A.o.block _ (ae G.o)).trans G.o),bB.o.kept (λg _ hg=>(a9.o.block g (by have:=b6.o.1;omega)).trans (A.o.block g (by omega))),by have:=A.o.size;rw [a9.o.size];omega,d2⟩
             case measure=>simp [intOf];omega
           · have iF:((C.toNat:Int)==97)=false:=by have:C.toNat≠97:=λh=>hC (UInt8.toNat_inj.1 h);simp;omega
             have HE:Hid (booksR (r.take q)++bookS [48,50,48] (ss.take (p+1))=LB):=by unfold Hid;rw [c2.o, <- c1.o,if_neg (λh=>hC h.2),List.append_nil]
             have b8:Hid (∀W,Bw wr W->W.cell? ⟨R,0,Y⟩=some (S [48,50,48])):=λW D=>(aa ((D.block _ (ae G.o)).trans G.o) 0).trans rfl;clear hI hC;go_wp2_with (go_at_call 180;((with_reducible refine kb (b9.o _) ?_);rintro e M ⟨rfl,E⟩;have I:Bw wr M:=(ba wr _).trans (E.mono (by simp));have r0:=b8.o M I;have z0:=((aE E).1 wr.heap.size 0 (by simp));have A:=Z I;clear I E))
             go_roundw
             case rel=>exact ⟨p+1,hlp,by go_num,(a4.o.below A.o).same HE.o,(A.o.block _ (ae G.o)).trans G.o,bB.o.kept (λg _ hg=>A.o.block g (by omega)),by have:=A.o.size;omega,d2⟩
             case measure=>simp [intOf];omega
         · have HE:Hid (booksR (r.take q)++bookS TG (ss.take (p+1))=LB):=by unfold Hid;rw [c2.o, <- c1.o,if_neg (λh=>m h.1),List.append_nil]
           have b8:Hid (∀W,Bw wr W->W.cell? ⟨R,0,Y⟩=some (S TG)):=λW D=>(aa ((D.block _ (ae G.o)).trans G.o) 0).trans rfl;clear hI;go_wp2_with (go_at_call 180;((with_reducible refine kb (b9.o _) ?_);rintro e M ⟨rfl,E⟩;have I:Bw wr M:=(ba wr _).trans (E.mono (by simp));have r0:=b8.o M I;have z0:=((aE E).1 wr.heap.size 0 (by simp));have A:=Z I;clear I E))
           go_roundw
           case rel=>exact ⟨p+1,hlp,by go_num,(a4.o.below A.o).same HE.o,(A.o.block _ (ae G.o)).trans G.o,bB.o.kept (λg _ hg=>A.o.block g (by omega)),by have:=A.o.size;omega,d2⟩
           case measure=>simp [intOf];omega
      · have HE:Hid (booksR (r.take (q+1))=booksR (r.take q)++bookS TG (ss.take p)):=by unfold Hid;rw [HN.o,show ss.take p=ss from kx (by omega)]
        go_wp2_with fail
        go_roundw
        case rel=>exact ⟨q+1,hlt,by go_num,a4.same HE.o⟩
        case measure=>simp [intOf];omega
   · have HE:Hid (booksR r=booksR (r.take q)):=by unfold Hid;rw [kx (by omega)]
     have b0:=gf _ _ b2.o;have cQ:=b2.same HE.o;have eq:=Z ((b2.o.b.block w.heap.size (by omega)).trans HR.o);have hh:=Z ((b2.o.b.block (w.heap.size+1) (by omega)).trans HZ.o);have r0:wr.cell? ⟨w.heap.size,0,Y⟩=some (J hN k.toNat):=(aa eq.o 0).trans rfl;have r1:wr.cell? ⟨w.heap.size,1,Y⟩=some (J hN l.toNat):=(aa eq.o 1).trans rfl;have r2:wr.cell? ⟨w.heap.size,2,Y⟩=some (hK a0 r.length c0):=(aa eq.o 2).trans rfl;have H1:=Z (HF wr b0);have hH:=Z b0;have bO:=Z cQ;clear b0 cQ;obtain ⟨g,hg⟩:=Qe ((firstF r [49,48,48]).getD zeroF);obtain ⟨tx,g5⟩:=Qe (textF (firstF r [49,48,48]) [97]);have g6:tx=textS g.subs [97]:=by rw [<- g5, <- hg,mW]
     rw [hg] at H1 ay;rw [g5] at ay g7;obtain ⟨gt,gi,gd,gs⟩:=g;dsimp only at H1 ay g6;have H3:Hid (∀(W:ko) (d:ky),aA 0 W.heap.size W d gs->lv prog 183 #[.agg #[S gt,S gi,S gd,d],J hN 97] W λe w'=>e=k8 (S tx)/\Bw W w'):=λW d h=>by rw [g6];exact pH gt gi gd d gs 97 W h ay.1 ay.2.1
     have H4:Hid (∀W,lv prog 182 #[S tx] W λe w'=>∃v,e=k8 v/\w'.ownsRow W.heap.size 9 1 v (bd tx).length ((bd tx).map λs=>S s)/\Bw W w'):=λW=>uo tx ay.2.2 W;generalize (firstF r [49,48,48]).isSome=is1 at *;have jn:¬(w.heap.size+1=T):=by have:=b6.o.2;omega
     have k0:¬(T=w.heap.size+1):=by have:=b6.o.2;omega
     clear hg g5 g6 ay
     go_wp2_with (first
      |(go_at_call 181;((with_reducible refine kb H1.o ?_);rintro e M ⟨⟨v,rfl,dd,rfl,b1⟩,E⟩;obtain ⟨da,dc,rfl,_⟩:=id b1;have i2:=Z (b1.mono (kn 0) E.size);have d5:=Z E;clear b1 E))
      |(go_at_call 183;((with_reducible refine kb (H3.o _ _ (i2.o.up2 (ba _ _) (kn _))) ?_);rintro e w4 ⟨rfl,hw⟩;have d6:=Z ((ba M _).trans (hw.mono (by simp)));clear hw))
      |(go_at_call 182;((with_reducible refine kb (H4.o _) ?_);rintro e w5 ⟨v,rfl,fz,aT⟩;obtain ⟨va,vc,rfl⟩:=aM fz;have i1:=Z fz;have cx:Bw wr w5:=d5.o.trans ((d6.o.trans (aT.mono d6.o.size)).mono d5.o.size);have hF:=Z cx;have a8:=(cx.block _ (ae bO.o.t)).trans bO.o.t;rw [<- g9.o] at a8;have P:=(cx.block _ (ae hh.o)).trans hh.o;have O:=ab a8 2;have Q:=(aa a8 0).trans rfl;have V:=(aa a8 1).trans rfl;have x2:=(aa a8 2).trans rfl;have x3:=(aa a8 3).trans rfl;have x4:=(aa a8 4).trans rfl;have y0:=ab P 0;have y1:=ab P 1;have y2:=ab P 2;have y3:=ab P 3;have y4:=ab P 4;have u0:=(aa P 0).trans rfl;have u1:=(aa P 1).trans rfl;have u2:=(aa P 2).trans rfl;have u3:=(aa P 3).trans rfl;have u4:=(aa P 4).trans rfl;have iP:=Z a8;have iQ:=Z P;clear aT cx a8 P fz)))
     refine bodyPost_ret (v:= .agg #[fs (some B),S (aP r), .slice va (bd tx).length vc,J U (bz r),J hN k.toNat]) (by rw [cS rfl];go_simp) rfl ?_;refine ⟨_,rfl,AE bO.o hF.o i1.o g7.o b6.o hH.o (by have:=d6.o.size;have:=d5.o.size;have:=bO.o.sz;have:=ae bO.o.t;omega) _ _ _ _ _ _ _ rfl⟩
structure bX (w W:ko) (c1 c2:Array ky) (n:Int):Prop where
 b:Bw w W
 x:W.heap[w.heap.size]? =some (.cells c1 208 (0,0))
 y:W.heap[w.heap.size+1]? =some (.cells c2 208 (0,0))
 s:W.heap[w.heap.size+2]? =some (.cells #[.int .i64 n] 3 (0,0))
theorem bX.below {w W c:ko} {c1 c2:Array ky} {n:Int} (h:bX w W c1 c2 n) (a:Bw W c):bX w c c1 c2 n:=
 ⟨h.b.trans (a.mono h.b.size),(a.block _ (ae h.x)).trans h.x,(a.block _ (ae h.y)).trans h.y,(a.block _ (ae h.s)).trans h.s⟩
theorem bX.add {w W:ko} {c1 c2:Array ky} {n:Int} (h:bX w W c1 c2 n) (d: -1000<=n/\n<=1000) (p q:Bool) (x y:Int) (g: -1000<=x/\x<=1000) (i: -1000<=y/\y<=1000):
 lv prog 188 #[fn p,fn q,J U x,J U y,k9 (X ⟨w.heap.size+2,0,Y⟩)] W λe w'=>e=k8 (.tuple #[])/\bX w w' c1 c2 (if p then if q then n+x else n+y else n):=
 (qg (w.heap.size+2) n x y p q W h.s d g i).mono λe w' ⟨c,f,a⟩=>⟨c,⟨h.b.trans (a.below (by omega)),(a.block _ (by omega)).trans h.x,(a.block _ (by omega)).trans h.y,f⟩⟩
theorem yw {w:ko} {b:Nat} {l:List Bs} (h:ak rY w b (l.map λs=>(s,fn true))) (k:Bs):(lookL (l.map λs=>(s,ls true)) k).getD (fn false)=fn (decide (k∈l)):=by
 by_cases hm:k∈l
 · rw [decide_eq_true hm,(bi h.nodup).2 (List.mem_map.2 ⟨k,hm,rfl⟩)];rfl
 · rw [decide_eq_false hm,gT.2 (λv d=>by
    obtain ⟨s,c,a⟩:=List.mem_map.1 d;injection a with h1 _
    exact hm (h1 ▸ c))]
   rfl
theorem wC {w:ko} {b:Nat} {l:List Bs} (h:ak rY w b (l.map λs=>(s,fn true))) (k:Bs) (a:k.length<=maxLen):(Instr.lookup 206 (fs (X b)) (S k) false).run prog w= .ok (fn (decide (k∈l))) w:=by
 have:=ak.look h underlying206 (z:=fn false) (by kernel_rfl) k a;rw [yw h] at this;exact this
theorem nk {w:ko} {lo n c:Nat} {a:Option Addr} {l:List Bs} (h:w.ownsRow lo 9 1 (hK a n c) n (l.map λs=>S s)) (e:0<n):∃g,a=X ⟨g,0,Y⟩/\g<w.heap.size/\w.cell? ⟨g,0,Y⟩=X (S (l.headD [])):=by
 obtain ⟨g,k,b,_⟩:=World.ownsRow.form h e;injection b with h1 h2 h3
 subst h1 h3;refine ⟨g,rfl,(h.lt g (by simp [Value.ownBlock])).2,?_⟩;rw [h.cellAt 0 (by omega)];have d:l.length=n:=by have:=h.1;simpa using this
 cases l with
 |nil=>simp at d;omega
 |cons s l=>rfl
theorem ll (s:Bs): -1<=aN s/\aN s<=9999:=by
 unfold aN;split
 · rename_i h;have:=qS s (λc a=>List.all_eq_true.1 h.2 c a) 4 (by omega);rw [kx (by omega)] at this;unfold foldN at this;omega
 · omega
theorem mM:∀s:Bs, -1<=bl s/\bl s<=9999
 |[]=>by unfold bl;omega
 |c::l=>by
  unfold bl
  split
  · exact ll _
  · exact mM l
theorem tu (a:List af): -1<=bz a/\bz a<=9999:=by
 unfold bz;split
 · unfold iJ;split
   · split
     · exact ll _
     · omega
   · omega
 · exact mM _
theorem sj (e4 e5:Nat) (u v:ky) (r s:az) (w:ko) (hu:bV e4 w u r) (hv:bV e5 w v s) (hr:(br r.fields).length<=1000000000) (k:(br s.fields).length<=1000000000):
 lv prog 131 #[u,v] w λe w'=>e=k8 (J U (pointsR r s))/\Bw w w':=by
 obtain ⟨O,n1,k1,a1,rfl,_,⟨l1,m1,e1,_⟩,o1⟩:=hu;obtain ⟨b2,n2,k2,a2,rfl,_,⟨l2,F,e2,_⟩,o2⟩:=hv;have ds:n1=(br r.fields).length:=by have:=o1.1;simp at this;rcases o1.2 with ⟨h,h0⟩|⟨g,c,cu,h,_⟩<;>injection h<;>omega
 have dx:n2=(br s.fields).length:=by have:=o2.1;simp at this;rcases o2.2 with ⟨h,h0⟩|⟨g,c,cu,h,_⟩<;>injection h<;>omega
 subst ds dx;have HP:Hid (pointsR r s=bookPts (booksR r.fields) (booksR s.fields)+titlePts (aP r.fields) (aP s.fields)+authorPts (br r.fields) (br s.fields)+yearPts (bz r.fields) (bz s.fields)+(if r.kind=s.kind then 0 else -40)):=rfl;generalize booksR r.fields=B1 at *;generalize booksR s.fields=B2 at *;generalize aP r.fields=o at *;generalize aP s.fields=p at *;generalize br r.fields=A1 at *;generalize br s.fields=A2 at *;have f6:=tu r.fields;have f7:=tu s.fields;generalize bz r.fields=Y1 at *;generalize bz s.fields=Y2 at *;generalize r.kind=K1 at *;generalize s.kind=K2 at *;obtain ⟨c1,Q⟩:∃c1:Array ky, #[fs (X O),S o,hK a1 A1.length k1,J U Y1,J hN K1.toNat]=c1:=⟨_,rfl⟩;obtain ⟨c2,R⟩:∃c2:Array ky, #[fs (X b2),S p,hK a2 A2.length k2,J U Y2,J hN K2.toNat]=c2:=⟨_,rfl⟩;have e8:=Z Q;have e9:=Z R;have bv:=Z m1;have bw:=Z F;have aT:=Z o1;have b0:=Z o2;have al:=Z e1;have ao:=Z e2
 have C:Hid (∀W n,bX w W c1 c2 n->(W.cell? ⟨w.heap.size,0,Y⟩=X (fs (X O))/\W.cell? ⟨w.heap.size,1,Y⟩=X (S o)/\W.cell? ⟨w.heap.size,2,Y⟩=X (hK a1 A1.length k1)/\W.cell? ⟨w.heap.size,3,Y⟩=X (J U Y1)/\W.cell? ⟨w.heap.size,4,Y⟩=X (J hN K1.toNat))/\
  (W.cell? ⟨w.heap.size+1,0,Y⟩=X (fs (X b2))/\W.cell? ⟨w.heap.size+1,1,Y⟩=X (S p)/\W.cell? ⟨w.heap.size+1,2,Y⟩=X (hK a2 A2.length k2)/\W.cell? ⟨w.heap.size+1,3,Y⟩=X (J U Y2)/\W.cell? ⟨w.heap.size+1,4,Y⟩=X (J hN K2.toNat))):=λW n h=>by
  have j:=h.x
  have i:=h.y
  rw [<- Q] at j
  rw [<- R] at i
  exact ⟨⟨(aa j 0).trans rfl,(aa j 1).trans rfl,(aa j 2).trans rfl,(aa j 3).trans rfl,(aa j 4).trans rfl⟩,⟨(aa i 0).trans rfl,(aa i 1).trans rfl,(aa i 2).trans rfl,(aa i 3).trans rfl,(aa i 4).trans rfl⟩⟩
 have bt:Hid (∀W,Bw w W->∀M,(Builtin.len_ #[206] M #[fs (X O)]).run prog W= .ok (J U l1.length) W/\(Builtin.len_ #[206] M #[fs (X b2)]).run prog W= .ok (J U l2.length) W):=λW hb M=>by have j:=cj.len (mv:=X O) (m1.block (hb.block _ m1.lt)) underlying206 M;have i:=cj.len (mv:=X b2) (F.block (hb.block _ F.lt)) underlying206 M;rw [List.length_map] at j i;exact ⟨j,i⟩
 clear m1 F o1 o2 e1 e2;have a9:bX w (((w.alloc (k7 c1 208)).alloc (k7 c2 208)).alloc (k7 #[J U 0] 3)) c1 c2 0:=by
  have z1:(w.alloc (k7 c1 208)).heap.size=w.heap.size+1:=by simp
  have z2:((w.alloc (k7 c1 208)).alloc (k7 c2 208)).heap.size=w.heap.size+2:=by simp
  refine ⟨(((kq _ w).alloc (kn _) _).alloc (by simp) _).alloc (by simp;omega) _,?_,?_,?_⟩
  · rw [kd _ _ _ (by simp;omega),kd _ _ _ (by simp)];exact ka w _
  · rw [kd _ _ _ (by simp), <- z1];exact ka _ _
  · rw [<- z2];exact ka _ _
 rw [<- Q, <- R] at a9;generalize hW3:((w.alloc (k7 #[fs (X O),S o,hK a1 A1.length k1,J U Y1,J hN K1.toNat] 208)).alloc (k7 #[fs (X b2),S p,hK a2 A2.length k2,J U Y2,J hN K2.toNat] 208)).alloc (k7 #[J U 0] 3)=w3 at a9;rw [Q,R] at a9;have d6:=Z hW3;have H3:=Z a9;have cp:w3.heap.size=w.heap.size+3:=by rw [<- hW3];simp
 have av:=Z cp;clear hW3 a9 Q R cp;go_enter func131,ntmps131;go_upto_region 4 with fail
 rw [d6.o];obtain ⟨⟨x0,_,_,_,_⟩,_⟩:=C w3 0 H3.o;have dr:=Z (bv.block (H3.b.block _ bv.lt));go_wp2_with (refine mO _ rfl _ _ rfl 4 underlying206 O _ rfl dr.o ?_;intro w4 cl c9 e3)
 have c6:=Z cl;have H4:=Z (H3.below c9);clear cl c9 e3 x0;obtain ⟨N,b4⟩:∃N:List (Bs×ky),l1.map (λs=>(s,fn true))=N:=⟨_,rfl⟩;rw [b4] at c6;have aS:=Z b4;clear b4;go_simp;go_loopg [7] (N.length+1) (λg t wr=>∃(b:Bool) (left:List (Bs×ky)),left.length<g/\t=fn b/\Hid (cn rY wr O w3.heap.size N left)/\Hid (bX w wr c1 c2 0)/\Hid (b=true↔∃x∈N,x∉left/\x.1∈l2))
 case atStart=>exact ⟨false,N,by omega,rfl,c6,H4,by
  unfold Hid;constructor
  · intro h;cases h
  · rintro ⟨x,T,B,_⟩;exact absurd T B⟩
 case round=>
  obtain ⟨b,left,f0,rfl,HR,a0,HB⟩:=hrel;go_wp2_with (refine pr _ rfl _ rfl O w3.heap.size N left rfl HR.o ?_ ?_)
  · intro dc;subst dc;have bc:Hid (b=true↔B1.any B2.contains=true):=by
     unfold Hid;rw [HB.o,List.any_eq_true];constructor
     · rintro ⟨x,T,_,i⟩;rw [<- aS.o] at T;obtain ⟨s,k,rfl⟩:=List.mem_map.1 T;exact ⟨s,(al.o s).1 k,by simpa using (ao.o s).1 i⟩
     · rintro ⟨s,k,i⟩;exact ⟨(s,fn true),by rw [<- aS.o];exact List.mem_map.2 ⟨s,(al.o s).2 k,rfl⟩,by simp,(ao.o s).2 (by simpa using i)⟩
    go_upto_region 8 with fail
    go_cut [] (λA=>Hid (bX w A c1 c2 (bookPts B1 B2)))
    case first=>
     obtain ⟨⟨x0,_,_,_,_⟩,y0,_,_,_,_⟩:=C wr 0 a0.o;have ex:=λM=>(bt wr a0.b M).1;have eQ:=λM=>(bt wr a0.b M).2;have z1:l1.length=0↔B1=[]:=by
      rw [List.length_eq_zero_iff];constructor
      · rintro rfl;exact List.eq_nil_iff_forall_not_mem.2 λs k=>by have:=(al.o s).2 k;simp at this
      · rintro rfl;exact List.eq_nil_iff_forall_not_mem.2 λs k=>by have:=(al.o s).1 k;simp at this
     have z2:l2.length=0↔B2=[]:=by
      rw [List.length_eq_zero_iff];constructor
      · rintro rfl;exact List.eq_nil_iff_forall_not_mem.2 λs k=>by have:=(ao.o s).2 k;simp at this
      · rintro rfl;exact List.eq_nil_iff_forall_not_mem.2 λs k=>by have:=(ao.o s).1 k;simp at this
     have aC:Hid (bookPts B1 B2=if l1.length=0∨l2.length=0 then 0 else if b=true then 50 else -30):=by
      unfold Hid bookPts;by_cases hz:B1=[]∨B2=[]
      · rw [if_pos hz,if_pos (hz.imp z1.2 z2.2)]
      · have e0:¬(l1.length=0∨l2.length=0):=λh=>hz (h.imp z1.1 z2.1);rw [if_neg hz,if_neg e0];by_cases hb:b=true
        · rw [if_pos hb,if_pos (bc.o.1 hb)]
        · rw [if_neg hb,if_neg (λh=>hb (bc.o.2 h))]
     clear z1 z2;generalize l1.length=q1 at *;generalize l2.length=q2 at *;rcases ks q1 with rfl|G
     · go_wp2_with (go_at_call 188;refine kb (bX.add a0.o ⟨by omega,by omega⟩ _ _ _ _ ⟨by decide,by decide⟩ ⟨by decide,by decide⟩) ?_;rintro e V ⟨rfl,a⟩;have d:=Z a;clear a)
       go_meet;have:=d.o;rw [show bookPts B1 B2=0 by rw [aC.o];simp];show bX _ _ _ _ _;simpa using this
     · rcases ks q2 with rfl|H
       · go_wp2_with (go_at_call 188;refine kb (bX.add a0.o ⟨by omega,by omega⟩ _ _ _ _ ⟨by decide,by decide⟩ ⟨by decide,by decide⟩) ?_;rintro e V ⟨rfl,a⟩;have d:=Z a;clear a)
         go_meet;have:=d.o;rw [show bookPts B1 B2=0 by rw [aC.o];simp];show bX _ _ _ _ _;simpa using this
       · have D:(0:Int)<(q1:Int):=by omega
         have P:(0:Int)<(q2:Int):=by omega
         go_wp2_with (go_at_call 188;refine kb (bX.add a0.o ⟨by omega,by omega⟩ _ _ _ _ ⟨by decide,by decide⟩ ⟨by decide,by decide⟩) ?_;rintro e V ⟨rfl,a⟩;have d:=Z a;clear a)
         go_meet;have:=d.o;rw [show bookPts B1 B2=if b=true then 50 else -30 by rw [aC.o,if_neg (by omega)]];show bX _ _ _ _ _;simpa using this
    case rest=>
     have au:=hcut;clear hcut;go_upto_region 9 with fail
     go_cut [] (λA=>Hid (bX w A c1 c2 (bookPts B1 B2+titlePts o p)))
     case first=>
      obtain ⟨⟨_,x1,_,_,_⟩,_,y1,_,_,_⟩:=C wc _ au.o;have er: -30<=bookPts B1 B2/\bookPts B1 B2<=50:=by unfold bookPts;split;omega;split<;>omega
      have b3:Hid (titlePts o p=if o=[]∨p=[] then 0 else if o=p then 30 else -20):=rfl;generalize bookPts B1 B2=n at *;rcases o with _|⟨t1,o⟩
      · go_wp2_with (go_at_call 188;refine kb (bX.add au.o ⟨by omega,by omega⟩ _ _ _ _ ⟨by decide,by decide⟩ ⟨by decide,by decide⟩) ?_;rintro e V ⟨rfl,a⟩;have d:=Z a;clear a)
        go_meet;have:=d.o;rw [b3.o];show bX _ _ _ _ _;simpa using this
      · rcases p with _|⟨t2,p⟩
        · go_wp2_with (go_at_call 188;refine kb (bX.add au.o ⟨by omega,by omega⟩ _ _ _ _ ⟨by decide,by decide⟩ ⟨by decide,by decide⟩) ?_;rintro e V ⟨rfl,a⟩;have d:=Z a;clear a)
          go_meet;have:=d.o;rw [b3.o];show bX _ _ _ _ _;simpa using this
        · go_wp2_with (go_at_call 188;refine kb (bX.add au.o ⟨by omega,by omega⟩ _ _ _ _ ⟨by decide,by decide⟩ ⟨by decide,by decide⟩) ?_;rintro e V ⟨rfl,a⟩;have d:=Z a;clear a)
          go_meet;have:=d.o;rw [b3.o];show bX _ _ _ _ _;by_cases hT:(t1::o:Bs)=t2::p
          · rw [if_neg (by simp),if_pos hT];injection hT with D P
            subst D P;simpa using this
          · rw [if_neg (by simp),if_neg hT];have d9:¬(t1=t2/\o=p):=λh=>hT (by rw [h.1,h.2]);simpa [d9] using this
     case rest=>
      have a5:=hcut;clear hcut;obtain ⟨n,B⟩:=Qe (bookPts B1 B2+titlePts o p);have f4: -50<=n/\n<=80:=by
       rw [<- B];have j: -30<=bookPts B1 B2/\bookPts B1 B2<=50:=by unfold bookPts;split;omega;split<;>omega
       have i: -20<=titlePts o p/\titlePts o p<=30:=by unfold titlePts;split;omega;split<;>omega
       omega
      rw [B] at a5;have HN:=Z B;clear B;go_upto_region 10 with fail
      go_cut [61] (λt A=>t=fn (decide (0<A1.length)&&decide (0<A2.length))/\A=wc)
      case first=>
       obtain ⟨⟨_,_,x2,_,_⟩,_,_,y2,_,_⟩:=C wc _ a5.o;generalize A1.length=q1 at *;generalize A2.length=q2 at *;rcases ks q1 with rfl|G
       · go_wp2_with fail
         go_meet;exact ⟨rfl,rfl⟩
       · rcases ks q2 with rfl|H
         · have D:(0:Int)<(q1:Int):=by omega
           go_wp2_with fail
           go_meet;exact ⟨by simp,rfl⟩
         · have D:(0:Int)<(q1:Int):=by omega
           have P:(0:Int)<(q2:Int):=by omega
           go_wp2_with fail
           go_meet;exact ⟨by simp [G,H],rfl⟩
      case rest=>
       obtain ⟨rfl,rfl⟩:=hcut;obtain ⟨bb,a3⟩:=Qe ((decide (0<A1.length)&&decide (0<A2.length)));rw [a3];have bk:=Z a3;clear a3;go_upto_if 61 with fail
       go_cut [] (λA=>Hid (bX w A c1 c2 (n+authorPts A1 A2)))
       case first=>
        cases bb
        · go_wp2_with fail
          go_meet;have:authorPts A1 A2=0:=by
           unfold authorPts;rw [if_pos];have h:=bk.o;rw [lm,decide_eq_false_iff_not,decide_eq_false_iff_not] at h;rcases h with h|h
           · exact .inl (lk (by omega))
           · exact .inr (lk (by omega))
          rw [this];show bX _ _ _ _ _;simpa using a5.o
        · have h:=bk.o;rw [Bool.and_eq_true,decide_eq_true_eq,decide_eq_true_eq] at h;obtain ⟨G,H⟩:=h;obtain ⟨D,rfl,cb,Q⟩:=nk aT.o G;obtain ⟨P,rfl,cc,R⟩:=nk b0.o H;have cq:Hid (authorPts A1 A2=if A1=A2 then 15 else if A1.headD []=A2.headD [] then 8 else -15):=by unfold Hid authorPts;rw [if_neg];rintro (rfl|rfl)<;>simp at G H
          have HQ:Hid (∀W n,bX w W c1 c2 n->W.cell? ⟨w.heap.size,2,Y⟩=X (hK (X ⟨D,0,Y⟩) A1.length k1)/\W.cell? ⟨w.heap.size+1,2,Y⟩=X (hK (X ⟨P,0,Y⟩) A2.length k2)/\W.cell? ⟨D,0,Y⟩=X (S (A1.headD []))/\W.cell? ⟨P,0,Y⟩=X (S (A2.headD []))):=λW n h=>by obtain ⟨⟨_,_,x2,_,_⟩,_,_,y2,_,_⟩:=C W n h;exact ⟨x2,y2,((aE h.b).1 _ _ cb).trans Q,((aE h.b).1 _ _ cc).trans R⟩
          have cv:Hid (∀W n,bX w W c1 c2 n->lv prog 189 #[hK (X ⟨D,0,Y⟩) A1.length k1,hK (X ⟨P,0,Y⟩) A2.length k2] W λe w'=>e=k8 (fn (decide (A1=A2)))/\∃q,w'=W.drewN q):=λW n h=>
           vw (ah aT.o (λg hg=>h.b.block g (aT.lt g hg).2)) (ah b0.o (λg hg=>h.b.block g (b0.lt g hg).2)) hr k
          have cx:Hid (A1=A2->A1.headD []=A2.headD []):=λh=>by rw [h]
          clear Q R cb cc;generalize A1.headD []=j at *;generalize A2.headD []=i at *;have eg:Hid (A1.length<=1000000000):=hr;have ej:Hid (A2.length<=1000000000):=k;generalize A1.length=q1 at *;generalize A2.length=q2 at *;have i1:(0:Int)<(q1:Int):=by omega
          have i2:(0:Int)<(q2:Int):=by omega
          have c7:∃m,bX w wc.drew c1 c2 m:=⟨n,a5.below (kq _ wc).drew⟩;have bO:Hid (bX w wc.drew c1 c2 n):=a5.below (kq _ wc).drew;generalize hdd:decide (A1=A2)=dd at *;have bs:=Z hdd;clear hdd;go_wp2_with fail
          refine wT (λW=>∃m,bX w W c1 c2 m) 999 ?_;have L:=tkL [0,1,2,3,4,5,6,7,8,9,10,11,12,13];repeat (refine tkIS L ?_ rfl c7 ?_ ?_;rotate_left;intro w' h;obtain ⟨m,h⟩:=h;obtain ⟨c0,d0,c3,d3⟩:=HQ w' m h;go_simp;rfl;(try go_simp);replace L:=tkO L)
          clear L;refine Dp 14 λK l=>?_;go_simp;go_at_call 189;refine (cv _ _ bO.o).mono ?_;rintro e V ⟨rfl,qq,cm⟩;have bY:Hid (bX w V c1 c2 n):=by rw [cm];exact bO.o.below ⟨rfl,rfl,rfl,kn _,λ_ _=>rfl⟩
          clear cm;refine l _ _ (λ_=>⟨n,bY.o⟩) ?_;clear l K;refine Dp 15 λK l=>?_;go_simp;go_at_call 188;refine kb (bX.add bY.o ⟨by omega,by omega⟩ _ _ 15 8 ⟨by decide,by decide⟩ ⟨by decide,by decide⟩) ?_;rintro e w6 ⟨rfl,z⟩;obtain ⟨n6,b8,z⟩:∃n6,(n6=_)/\bX w w6 c1 c2 n6:=⟨_,rfl,z⟩;have eq: -50<=n6/\n6<=95:=by rw [b8];split;split;omega;omega;omega
          have a4:=Z z;have cz:=Z b8;clear b8;refine l _ _ (λ_=>⟨_,z⟩) ?_;clear l K;refine dN ?_;have d8:∃m,bX w w6.drew c1 c2 m:=⟨n6,a4.below (kq _ w6).drew⟩;have cQ:Hid (bX w w6.drew c1 c2 n6):=a4.below (kq _ w6).drew;clear z c7;go_wp2_with fail
          refine wT (λW=>∃m,bX w W c1 c2 m) 999 ?_;have L:=tkL [0,1,2,3,4,5,6,7,8,9];repeat (refine tkIS L ?_ rfl d8 ?_ ?_;rotate_left;intro w' h;obtain ⟨m,h⟩:=h;obtain ⟨c0,d0,c3,d3⟩:=HQ w' m h;go_simp;rfl;(try go_simp);replace L:=tkO L)
          clear L;refine Dp 10 λK l=>?_;go_simp;go_at_call 188;refine kb (bX.add cQ.o ⟨by omega,by omega⟩ _ _ (-15) 0 ⟨by decide,by decide⟩ ⟨by decide,by decide⟩) ?_;rintro e w7 ⟨rfl,a8⟩;obtain ⟨n7,cg,a8⟩:∃n7,(n7=_)/\bX w w7 c1 c2 n7:=⟨_,rfl,a8⟩;have d4:=Z a8;have cP:=Z cg;clear cg;refine l _ _ (λ_=>⟨_,a8⟩) ?_;clear l K;refine dN ?_;clear a8;go_wp2_with fail
          go_meet;show bX _ _ _ _ _;have e6:=cz.o;have e7:=cP.o;have e:n+authorPts A1 A2=n7:=by
           rw [cq.o];by_cases hA:A1=A2
           · have hh:=cx hA;subst hh;rw [<- bs.o,decide_eq_true hA] at e6;rw [if_pos hA];simp at e6 e7;omega
           · rw [<- bs.o,decide_eq_false hA] at e6;rw [if_neg hA];by_cases hh:j=i
             · subst hh;simp at e6 e7 ⊢;omega
             · rw [if_neg hh];simp [hh] at e6 e7;omega
          rw [e];exact d4.o
       case rest=>
        have a6:=hcut;clear hcut;obtain ⟨m,E⟩:=Qe (n+authorPts A1 A2);have f2: -65<=m/\m<=95:=by
         have: -15<=authorPts A1 A2/\authorPts A1 A2<=15:=by unfold authorPts;split;omega;split;omega;split<;>omega
         omega
        rw [E] at a6;have bB:=Z E;clear E;go_upto_region 13 with fail
        go_cut [112] (λt A=>t=fn (decide (0<=Y1)&&decide (0<=Y2)&&decide (Y1 - Y2≠1)&&decide (Y2 - Y1≠1))/\A=wc)
        case first=>
         obtain ⟨⟨_,_,_,x3,_⟩,_,_,_,y3,_⟩:=C wc _ a6.o;have w1:IntKind.i64.wrap (Y1 - Y2)=Y1 - Y2:=IntWalk.i64_in _ (by omega);have w2:IntKind.i64.wrap (Y2 - Y1)=Y2 - Y1:=IntWalk.i64_in _ (by omega);obtain ⟨d1,b5⟩:=Qe (Y1 - Y2);obtain ⟨d2,b6⟩:=Qe (Y2 - Y1);have W1:Hid (IntKind.i64.wrap (Y1 - Y2)=d1):=by rw [w1];exact b5
         have W2:Hid (IntKind.i64.wrap (Y2 - Y1)=d2):=by rw [w2];exact b6
         have ac:=Z b5;have ad:=Z b6;clear w1 w2 b5 b6;have w1:=W1.o;have w2:=W2.o;rcases Int.lt_or_le Y1 0 with G|G
         · have D:¬(0<=Y1):=by omega
           go_wp2_with fail
           go_meet;refine ⟨?_,rfl⟩;rw [ac.o,ad.o];simp;intro h;omega
         · rcases Int.lt_or_le Y2 0 with H|H
           · have P:¬(0<=Y2):=by omega
             go_wp2_with fail
             go_meet;refine ⟨?_,rfl⟩;rw [ac.o,ad.o];simp;intro _ h;omega
           · by_cases e1:d1=1
             · subst e1;go_wp2_with fail
               go_meet;refine ⟨?_,rfl⟩;rw [ac.o,ad.o];simp [G,H]
             · have f1:(d1 !=1)=true:=by simp [e1]
               go_wp2_with fail
               go_meet;refine ⟨?_,rfl⟩;rw [ac.o,ad.o];by_cases e2:d2=1<;>simp [G,H,e1,e2,bne]
        case rest=>
         obtain ⟨rfl,rfl⟩:=hcut;obtain ⟨bb,a3⟩:=Qe ((decide (0<=Y1)&&decide (0<=Y2)&&decide (Y1 - Y2≠1)&&decide (Y2 - Y1≠1)));rw [a3];have b9:=Z a3;clear a3;go_upto_if 112 with fail
         go_cut [] (λA=>Hid (bX w A c1 c2 (m+yearPts Y1 Y2)))
         case first=>
          cases bb
          · go_wp2_with fail
            go_meet;have h:=b9.o;have:yearPts Y1 Y2=0:=by
             unfold yearPts;simp only [lm,decide_eq_false_iff_not] at h;split
             · rfl
             · rw [if_neg (by omega),if_pos (by omega)]
            rw [this];show bX _ _ _ _ _;simpa using a6.o
          · obtain ⟨⟨_,_,_,x3,_⟩,_,_,_,y3,_⟩:=C wc _ a6.o;go_wp2_with (go_at_call 188;refine kb (bX.add a6.o ⟨by omega,by omega⟩ _ _ _ _ ⟨by decide,by decide⟩ ⟨by decide,by decide⟩) ?_;rintro e V ⟨rfl,a⟩;have d:=Z a;clear a)
            go_meet;have h:=b9.o;simp only [Bool.and_eq_true,decide_eq_true_eq] at h;have:=d.o;show bX _ _ _ _ _;unfold yearPts;rw [if_neg (by omega)];by_cases he:Y1=Y2
            · rw [if_pos he];simpa [he] using this
            · rw [if_neg he,if_neg (by omega)];simpa [he] using this
         case rest=>
          have d:=hcut;clear hcut;obtain ⟨F,b7⟩:=Qe (m+yearPts Y1 Y2);have f3: -75<=F/\F<=105:=by
           have: -10<=yearPts Y1 Y2/\yearPts Y1 Y2<=10:=by unfold yearPts;split;omega;split;omega;split<;>omega
           omega
          rw [b7] at d;have bA:=Z b7;clear b7;obtain ⟨⟨_,_,_,_,x4⟩,_,_,_,_,y4⟩:=C wc _ d.o;by_cases l:K1=K2
          · have hk:((K1.toNat:Int)==(K2.toNat:Int))=true:=by rw [l];simp
            have HK:=Z l;clear l;go_wp2_with (go_at_call 188;refine kb (bX.add d.o ⟨by omega,by omega⟩ _ _ _ _ ⟨by decide,by decide⟩ ⟨by decide,by decide⟩) ?_;rintro e w6 ⟨rfl,z⟩;have a4:=Z z;have s6:=(aa z.s 0).trans rfl;clear z)
            go_ret;refine ⟨?_,a4.b⟩;rw [HP.o,HN.o,bB.o,bA.o,if_pos HK.o];simp
          · have hk:((K1.toNat:Int)==(K2.toNat:Int))=false:=by have:K1.toNat≠K2.toNat:=λh=>l (UInt8.toNat_inj.1 h);simp;omega
            have HK:=Z l;clear l;go_wp2_with (go_at_call 188;refine kb (bX.add d.o ⟨by omega,by omega⟩ _ _ _ _ ⟨by decide,by decide⟩ ⟨by decide,by decide⟩) ?_;rintro e w6 ⟨rfl,z⟩;have a4:=Z z;have s6:=(aa z.s 0).trans rfl;clear z)
            go_ret;refine ⟨?_,a4.b⟩;rw [HP.o,HN.o,bB.o,bA.o,if_neg HK.o];simp
  · intro I pv w2 hp dz ch ce a7 da;have em:w3.heap.size<wr.heap.size:=HR.lt;have d5:Hid (left.Sublist N):=by obtain ⟨es,f,d7,j,i,h3,h4,_⟩:=HR.o;exact h4
    have f5:I∈l1:=by
     obtain ⟨es,f,d7,j,i,h3,h4,_⟩:=HR.o;have:=h4.subset hp;rw [<- aS.o] at this;obtain ⟨s,k,he⟩:=List.mem_map.1 this;injection he with j _
     rw [<- j];exact k
    have ax:bX w w2 c1 c2 0:=by have h:=a0.o;exact ⟨h.b.trans (a7.below (by have:=av.o;omega)),(a7.block _ (by have:=av.o;omega)).trans h.x,(a7.block _ (by have:=av.o;omega)).trans h.y,(a7.block _ (by have:=av.o;omega)).trans h.s⟩
    have dk:=wC (bw.block (ax.b.block _ bw.lt)) I dz;obtain ⟨_,y0,_,_,_,_⟩:=C w2 0 ax;have c4:=Z ax;have c5:=Z ch;have cd:rY.kv I=S I:=rfl;rw [cd] at da;obtain ⟨m,E⟩:=Qe (decide (I∈l2));rw [E] at dk;have cy:=Z E;have cs:=Z hp;clear ch ax cd a7 E hp;cases b
    · go_wp2_with fail
      go_roundg (left.length)
      case rel=>
       refine ⟨m,co left I,ce,rfl,c5,c4,?_⟩;unfold Hid;have h0:=HB.o;rw [<- cy.o,decide_eq_true_eq];constructor
       · intro E;exact ⟨(I,pv),d5.o.subset cs.o,by simp [co],E⟩
       · rintro ⟨x,T,B,ay⟩;by_cases hxl:x∈left
         · have:x.1=I:=by apply Classical.byContradiction;intro dy;exact B (List.mem_filter.2 ⟨hxl,by simpa using dy⟩)
           rw [<- this];exact ay
         · exact absurd (h0.2 ⟨x,T,hxl,ay⟩) (by decide)
      case measure=>omega
    · go_wp2_with fail
      go_roundg (left.length)
      case rel=> refine ⟨true,co left I,ce,rfl,c5,c4,?_⟩;unfold Hid;obtain ⟨x,T,B,ay⟩:=HB.o.1 (by simp);exact ⟨λ_=>⟨x,T,λh=>B (List.mem_filter.1 h).1,ay⟩,λ_=>rfl⟩
      case measure=>omega
end
end Go.Proofs.YtjcimanddakkaaaGreatDoor
