/- Lemmas. -/
import Derived.Test.YtjcimanddakkaaaGreatDoorX0
import Derived.Test.YtjcimanddakkaaaGreatDoorX3
import Derived.Test.YtjcimanddakkaaaGreatDoorX16
import Derived.Test.YtjcimanddakkaaaGreatDoorX17
import Derived.Test.YtjcimanddakkaaaGreatDoorX20
import Derived.Deep.LoopGhost
import Derived.Deep.CutBlock
set_option maxRecDepth 100000
set_option maxHeartbeats 8000000
namespace Go.Proofs.YtjcimanddakkaaaGreatDoor
open Go.Lib renaming hid→a0a
open Go.World renaming alloc_heap_new→a0b
open Go.Calls renaming mono→a0c
open _root_.Nat renaming le_add_right→a0d,le_refl→a0i,eq_zero_or_pos→a0l,le_trans→a0q
open Go.RowKit.Below renaming heap_alloc→a0e,heap_setCell→a0h,refl→a0k
open Go.RowKit renaming Below→a0f
open Go.Proofs.Tryz renaming prog→a0g
open Go renaming World→a0j,Value→a0n,Calls→a0w
open _root_.List renaming take_of_length_le→a0m,length_append→a0o,take_succ_eq_append_getElem→a0p,length_take→a0r,eq_nil_of_length_eq_zero→a0s,filterMap_cons→a0u
open _root_.Bool renaming and_eq_false_iff→a0t
open Go.Value renaming bool→a0v
section
open Go.RowKit Go.Maps Go.Shelf
def rR:dZ a0g 9 Bs where
 kv s:=S s
 kl s:= .string s
 ok s:=s.length<=maxLen
 keyed:=string_keyed Tryz.underlying9
 key s h:=by
  unfold keyOf
  rw [Tryz.underlying9]
  simp only [mapKey,Tryz.underlying9]
  rw [if_pos (by show s.toArray.size<=maxLen;simpa using h)]
 inj a b h:=by
  injection h with h
  have:=congrArg (λx:ByteArray=>x.data.toList) h
  simpa using this
def aJ (w:a0j) (b:Nat) (a:List Bs):Prop:=∃l:List Bs,ak rR w b (l.map λs=>(s, .bool true))/\(∀s,s∈l↔s∈a)/\l.length<=a.length
theorem aJ.block {w w':a0j} {b:Nat} {a:List Bs} (h:aJ w b a) (e:w'.heap[b]? =w.heap[b]?):aJ w' b a:=by
 obtain ⟨l,c,d⟩:=h;exact ⟨l,c.block e,d⟩
theorem aJ.alloc {w:a0j} {b:Nat} {a:List Bs} (h:aJ w b a) (o:Obj):aJ (w.alloc o) b a:=by
 obtain ⟨l,c,d⟩:=h;exact ⟨l,c.alloc o,d⟩
theorem c8 (w:a0j):aJ (w.alloc (.map #[] 0)) w.heap.size []:=⟨[],ak.made w,by simp,a0i _⟩
theorem aJ.lt {w:a0j} {b:Nat} {a:List Bs} (h:aJ w b a):b<w.heap.size:=by obtain ⟨l,c,_⟩:=h;exact c.lt
def bU (lo:Nat) (w:a0j) (v:a0n) (r:aB):Prop:=∃(b n c:Nat) (a:Option Addr),v= .agg #[.map (some b),S (aO r.fields), .slice a n c, .int .i64 (bC r.fields), .int .u8 r.kind.toNat]/\lo<=b/\aJ w b (booksR r.fields)/\
 w.ownsRow lo 9 1 (.slice a n c) (br r.fields).length ((br r.fields).map λs=>S s)
theorem wM (l:List Bs) (k:Bs):∃a:List Bs,putL (l.map λs=>(s,a0v true)) k (.bool true)=a.map (λs=>(s,a0v true))/\(∀s,s∈a↔s∈l∨s=k)/\a.length<=l.length+1:=by
 refine ⟨l.filter (λs=> !decide (s=k))++[k],?_,λs=>?_,by have:=List.length_filter_le (λs=> !decide (s=k)) l;simp;omega⟩
 · unfold putL cB;rw [List.filter_map,List.map_append];rfl
 · simp only [List.mem_append,List.mem_filter,List.mem_singleton,Bool.not_eq_true',decide_eq_false_iff_not];constructor
   · rintro (⟨h,_⟩|h)
     · exact .inl h
     · exact .inr h
   · rintro (h|h)
     · by_cases e:s=k
       · exact .inr e
       · exact .inl ⟨h,e⟩
     · exact .inr h
theorem lD (a:List af) (q:Nat) (h:q<a.length):booksR (a.take (q+1))=booksR (a.take q)++oX a[q]:=by
 unfold booksR;rw [a0p h,List.flatMap_append];simp
def bookS (T:Bs) (a:List ci):List Bs:=if T=dW then a.filterMap λs=>if s.code=97 then isbnR s.text else none else []
theorem lG (f:af):oX f=bookS f.tag f.subs:=rfl
theorem lF (T:Bs) (a:List ci) (j:Nat) (h:j<a.length):bookS T (a.take (j+1))=bookS T (a.take j)++(if T=dW/\a[j].code=97 then (isbnR a[j].text).toList else []):=by
 unfold bookS;rw [a0p h,List.filterMap_append];by_cases hT:T=dW
 · simp only [hT,true_and];congr 1
   by_cases hc:a[j].code=97
   · rw [if_pos hc,a0u,if_pos hc];cases isbnR a[j].text<;>rfl
   · rw [if_neg hc,a0u,if_neg hc];rfl
 · simp [hT]
theorem jy (T:Bs) (a:List ci):(bookS T a).length<=a.length:=by
 unfold bookS;split
 · exact List.length_filterMap_le _ _
 · simp
theorem vP (a:List af) (h:∀f∈a,f.subs.length<=1000000):(booksR a).length<=a.length * 1000000:=by
 induction a with
 |nil=>simp [booksR]
 |cons f a ih=> have d:=h f List.mem_cons_self;have b:=ih λg c=>h g (List.mem_cons_of_mem _ c);have e:=jy f.tag f.subs;unfold booksR at b ⊢;rw [List.flatMap_cons,a0o,lG,List.length_cons,Nat.succ_mul];omega
theorem fI (a:List af) (q:Nat) (h:bL a):(booksR (a.take q)).length<=1000000000000:=by
 have d:=vP (a.take q) λf c=>a0q (cF f) (h.2 f (List.mem_of_mem_take c));have b:(a.take q).length<=1000000:=by rw [a0r];have:=h.1;omega
 have:=Nat.mul_le_mul_right 1000000 b;omega
theorem eK {s x:Bs} (h:isbnR s=some x):x.length<=13:=by
 unfold isbnR at h;dsimp only at h;split at h
 · rename_i a;injection h with h
   rw [<- h];simp only [a0o,List.length_cons,List.length_nil,a0r];omega
 · split at h
   · rename_i a;injection h with h
     rw [<- h];omega
   · cases h
structure OfS (lo:Nat) (w1:a0j) (T B:Nat) (cells:Array a0n) (W:a0j) (bs:List Bs):Prop where
 b:a0f lo w1 W
 t:W.heap[T]? =some (.cells cells 208 (0,0))
 k:aJ W B bs
 lB:lo<=B
 lT:lo<=T
 sz:lo<=W.heap.size
theorem OfS.below {lo:Nat} {w1:a0j} {T B:Nat} {e:Array a0n} {W c:a0j} {d:List Bs} (h:OfS lo w1 T B e W d) (a:a0f W.heap.size W c):OfS lo w1 T B e c d:=
 ⟨h.b.trans (a.mono h.sz),(a.block _ (ae h.t)).trans h.t,h.k.block (a.block _ h.k.lt),h.lB,h.lT,a0q h.sz a.size⟩
theorem OfS.ne {lo:Nat} {w1:a0j} {T B:Nat} {b:Array a0n} {W:a0j} {a:List Bs} (h:OfS lo w1 T B b W a):B≠T:=by
 obtain ⟨l,c,_⟩:=h.k;exact aj c h.t
theorem OfS.put {lo:Nat} {w1:a0j} {T B:Nat} {d:Array a0n} {W a:a0j} {f e:List Bs} (h:OfS lo w1 T B d W f) (c:aq B W a) (g:aJ a B e):OfS lo w1 T B d a e:=
 ⟨h.b.trans (c.below h.lB),(c.block _ (Ne.symm h.ne)).trans h.t,g,h.lB,h.lT,by rw [c.size];exact h.sz⟩
theorem OfS.same {lo:Nat} {w1:a0j} {T B:Nat} {b:Array a0n} {W:a0j} {a c:List Bs} (h:OfS lo w1 T B b W a) (e:c=a):OfS lo w1 T B b W c:=e ▸ h
theorem mR {W:a0j} {b B t:Nat} {c:Array a0n} {a:List Bs} (f:aJ W B a) (e:W.heap[b]? =some (.cells c t (0,0))):b≠B:=by
 obtain ⟨l,d,_⟩:=f;exact Ne.symm (aj d e)
theorem dY {w1 W:a0j} {T B lo:Nat} {j k l m n a b c d e:a0n} (h:W.heap[T]? =some (.cells #[j,k,l,m,n] 208 (0,0))/\lo<=T) (g:aJ W B []/\lo<=B) (p:a0f lo w1 W) (f:a0j)
 (o:f=((((W.setCell ⟨T,0,none⟩ a).setCell ⟨T,1,none⟩ b).setCell ⟨T,2,none⟩ c).setCell ⟨T,3,none⟩ d).setCell ⟨T,4,none⟩ e):
 f.heap[T]? =some (.cells #[a,b,c,d,e] 208 (0,0))/\aJ f B []/\(lo<=B/\lo<=T)/\a0f lo w1 f:=by
 subst o;have i:aq T W (((((W.setCell ⟨T,0,none⟩ a).setCell ⟨T,1,none⟩ b).setCell ⟨T,2,none⟩ c).setCell ⟨T,3,none⟩ d).setCell ⟨T,4,none⟩ e):=(((((aq.refl T W).setCell 0 a).setCell 1 b).setCell 2 c).setCell 3 d).setCell 4 e;have q:B≠T:=Ne.symm (mR g.1 h.1);exact ⟨(an (an (an (an (an h.1 0 a) 1 b) 2 c) 3 d) 4 e).trans rfl,g.1.block (i.block _ q),⟨g.2,h.2⟩,p.trans (i.below h.2)⟩
theorem Al {w w1 wr u j:a0j} {T B:Nat} {A:Array a0n} {k l:UInt8} {i:List af} {n:Bs} {r:Option Addr} {t:Nat} (h:OfS (w.heap.size+2) w1 T B A wr (booksR i)) (v:a0f wr.heap.size wr j)
 (o:j.ownsRow u.heap.size 9 1 (.slice r (ba n).length t) (ba n).length ((ba n).map λs=>S s)) (F:br i=ba n) (H:w.heap.size+2<=B/\w.heap.size+2<=T) (x:a0f w.heap.size w wr) (G:T<u.heap.size/\w.heap.size+2<=u.heap.size)
 (W:a0j) (a b c d e f:a0n) (E:W=((((((j.setCell ⟨T,2,none⟩ a).setCell ⟨w.heap.size+1,0,none⟩ b).setCell ⟨w.heap.size+1,1,none⟩ c).setCell ⟨w.heap.size+1,2,none⟩ d).setCell ⟨w.heap.size+1,3,none⟩ e).setCell ⟨w.heap.size+1,4,none⟩ f)):
 bU w.heap.size W (.agg #[.map (some B),S (aO i), .slice r (ba n).length t, .int .i64 (bC i), .int .u8 k.toNat]) ⟨k,l,i⟩/\a0f w.heap.size w W:=by
 subst E;have z:∀q,q≠T->q≠w.heap.size+1->((((((j.setCell ⟨T,2,none⟩ a).setCell ⟨w.heap.size+1,0,none⟩ b).setCell ⟨w.heap.size+1,1,none⟩ c).setCell ⟨w.heap.size+1,2,none⟩ d).setCell ⟨w.heap.size+1,3,none⟩ e).setCell ⟨w.heap.size+1,4,none⟩ f).heap[q]? =j.heap[q]? :=λq C m=>by rw [a0h _ _ _ _ m,a0h _ _ _ _ m,a0h _ _ _ _ m,a0h _ _ _ _ m,a0h _ _ _ _ m,a0h _ _ _ _ C]
 refine ⟨⟨B,_,t,r,rfl,by omega,?_,?_⟩,?_⟩
 · exact (h.k.block (v.block _ h.k.lt)).block (z B h.ne (by omega))
 · show World.ownsRow _ _ _ _ _ (br i).length _;rw [F];refine bE (ah o λg y=>z g ?_ ?_) (by omega)
   · have:=(o.lt g y).1;omega
   · have:=(o.lt g y).1;omega
 · have D:a0f w.heap.size w j:=x.trans (v.mono x.size);exact (((((D.setCell (p:=⟨T,2,none⟩) (by simp;omega) _).setCell (p:=⟨w.heap.size+1,0,none⟩) (by simp) _).setCell (p:=⟨w.heap.size+1,1,none⟩) (by simp) _).setCell (p:=⟨w.heap.size+1,2,none⟩) (by simp) _).setCell (p:=⟨w.heap.size+1,3,none⟩) (by simp) _).setCell (p:=⟨w.heap.size+1,4,none⟩) (by simp) _
theorem Am (k l:UInt8) (x:a0n) (r:List af) (w:a0j) (hs:ai 0 w.heap.size w x r) (J:bL r):
 a0w a0g 129 #[.agg #[.int .u8 k.toNat, .int .u8 l.toNat,x]] w λe w'=>∃v,e= .returned v/\bU w.heap.size w' v ⟨k,l,r⟩/\a0f w.heap.size w w':=by
 obtain ⟨w1,b6⟩:∃w1,(w.alloc (.cells #[.int .u8 k.toNat, .int .u8 l.toNat,x] 62)).alloc (.cells #[.map none,S [], .slice none 0 0, .int .i64 0, .int .u8 0] 208)=w1:=⟨_,rfl⟩;have hG:(w.alloc (.cells #[.int .u8 k.toNat, .int .u8 l.toNat,x] 62)).heap.size=w.heap.size+1:=by simp
 have aC:a0f w.heap.size w w1:=by rw [<- b6];exact ((a0k _ w).alloc (a0i _) _).alloc (by simp) _
 have hR:w1.heap[w.heap.size]? =some (.cells #[.int .u8 k.toNat, .int .u8 l.toNat,x] 62 (0,0)):=by rw [<- b6,a0e _ _ _ (by simp)];exact a0b w _
 have hZ:w1.heap[w.heap.size+1]? =some (.cells #[.map none,S [], .slice none 0 0, .int .i64 0, .int .u8 0] 208 (0,0)):=by rw [<- b6, <- hG];exact a0b (w.alloc _) _
 have hH:w1.heap.size=w.heap.size+2:=by rw [<- b6];simp
 have ex:Hid (∀W,a0f w.heap.size w W->ai 0 W.heap.size W x r):=λW D=>(fe hs (a0i _) D).mono (a0i _) D.size;have ia:Hid (∀W,a0f w.heap.size w W->ai 0 w.heap.size W x r):=λW D=>hs.kept (λg _ hg=>D.block g hg);have HT:Hid (∀W,a0f w.heap.size w W->a0w a0g 178 #[.agg #[.int .u8 k.toNat, .int .u8 l.toNat,x]] W λe w'=>e= .returned (S (aO r))/\a0f W.heap.size W w'):=λW D=>mD k l x r W (ex W D) J;have HY:Hid (∀W,a0f w.heap.size w W->a0w a0g 179 #[.agg #[.int .u8 k.toNat, .int .u8 l.toNat,x]] W λe w'=>e= .returned (.int .i64 (bC r))/\a0f W.heap.size W w'):=λW D=>vW k l x r W (ex W D) J
 have HF:Hid (∀W,a0f w.heap.size w W->a0w a0g 181 #[.agg #[.int .u8 k.toNat, .int .u8 l.toNat,x],S [49,48,48]] W λe w'=>(∃v,e= .returned (.tuple #[v, .bool (firstF r [49,48,48]).isSome])/\∃d,v= .agg #[S ((firstF r [49,48,48]).getD zeroF).tag,S ((firstF r [49,48,48]).getD zeroF).ind,S ((firstF r [49,48,48]).getD zeroF).data,d]/\az 0 W.heap.size w' d ((firstF r [49,48,48]).getD zeroF).subs)/\a0f W.heap.size W w'):=λW D=>
  m9 k l x r [49,48,48] W (ex W D) J.1
 have ax:Hid (((firstF r [49,48,48]).getD zeroF).subs.length<=1000000/\(∀s∈((firstF r [49,48,48]).getD zeroF).subs,s.text.length<=1000000)/\(textF (firstF r [49,48,48]) [97]).length<=1000000):=by
  refine ⟨?_,?_,eo J _ _⟩
  · cases h:firstF r [49,48,48] with
    |none=>simp [zeroF]
    |some f=>exact a0q (cF f) (J.2 f (gL h))
  · cases h:firstF r [49,48,48] with
    |none=>simp [zeroF]
    |some f=>exact λs hs=>kE (J.2 f (gL h)) hs
 have h4:=a0a J;have gb:Hid (br r=ba (textF (firstF r [49,48,48]) [97])):=rfl;obtain ⟨a0,c0,rfl⟩:=hs.shape;have iN:=a0a b6;have F:=a0a aC;have HR:=a0a hR;have HZ:=a0a hZ;have y:=a0a hH;have k0:=J.1;clear hs J b6 aC hR hZ hH hG;go_enter Tryz.func129,Tryz.ntmps129;go_upto_region 1 with fail
 rw [iN.out];obtain ⟨r0,r1,r2⟩:w1.cell? ⟨w.heap.size,0,none⟩=some (.int .u8 k.toNat)/\w1.cell? ⟨w.heap.size,1,none⟩=some (.int .u8 l.toNat)/\w1.cell? ⟨w.heap.size,2,none⟩=some (.slice a0 r.length c0):=⟨(aa HR.out 0).trans rfl,(aa HR.out 1).trans rfl,(aa HR.out 2).trans rfl⟩;go_cut [3] (λt wx=>∃T B:Nat,t= .pointer (some ⟨T,0,none⟩)/\Hid (wx.heap[T]? =some (.cells #[.map (some B),S (aO r), .slice none 0 0, .int .i64 (bC r), .int .u8 k.toNat] 208 (0,0)))/\Hid (aJ wx B [])/\Hid (w.heap.size+2<=B/\w.heap.size+2<=T)/\Hid (a0f (w.heap.size+2) w1 wx))
 case first=>
  have Z:Hid (a0f (w.heap.size+2) w1 w1.drew):=(a0k _ w1).drew
  have HC:Hid (∀W,a0f (w.heap.size+2) w1 W->W.cell? ⟨w.heap.size,0,none⟩=some (.int .u8 k.toNat)/\W.cell? ⟨w.heap.size,1,none⟩=some (.int .u8 l.toNat)/\W.cell? ⟨w.heap.size,2,none⟩=some (.slice a0 r.length c0)):=λW D=>
   ⟨(aa ((D.block _ (by omega)).trans HR.out) 0).trans rfl,(aa ((D.block _ (by omega)).trans HR.out) 1).trans rfl,(aa ((D.block _ (by omega)).trans HR.out) 2).trans rfl⟩
  clear r0 r1 r2;refine wT (λW=>a0f (w.heap.size+2) w1 W) 999 ?_;have d4:=tkL [1,3,5,6];repeat (refine tkIS d4 ?_ rfl Z.out ?_ ?_;rotate_left;intro w' h;obtain ⟨r0,r1,r2⟩:=HC w' h;go_simp;rfl;(try go_simp);replace d4:=tkO d4)
  clear d4;obtain ⟨H,hx⟩:∃H,w1.drew=H:=⟨_,rfl⟩;rw [hx] at Z ⊢;clear hx;have k1:= @run_makeMap a0g;refine lI (i:=0) (j:=2) (k:=8) rfl rfl rfl (by kernel_rfl) rfl rfl rfl (λK o=>?_) (λK o=>?_) (λK o=>?_)
  · skip;go_simp;have b9:Hid (aJ (H.alloc (.map #[] 0)) H.heap.size []/\w.heap.size+2<=H.heap.size):=⟨c8 _,(by have:=y.out;have:=Z.out.size;omega)⟩;have a9:Hid (a0f (w.heap.size+2) w1 (H.alloc (.map #[] 0))):=Z.out.alloc (by have:=y.out;have:=Z.out.size;omega) _;refine o _ _ (λ_=>a9.out) ?_;clear o K;generalize H.alloc (.map #[] 0)=W0 at *;refine bZ (i:=2) (j:=8) rfl rfl (by kernel_rfl) rfl rfl (λK o=>?_) (λK o=>?_)
    · skip;go_simp;go_at_call 178;refine a0c (HT _ (F.trans (a9.mono (a0d _ _)))) ?_;rintro e W1 ⟨rfl,aC⟩;have ac:=a0a (btr a9.out aC (by have:=y.out;have:=a9.out.size;omega));have bb:=a0a (⟨b9.1.block (aC.block _ b9.1.lt),b9.2⟩:aJ W1 _ []/\_);clear aC;refine o _ _ (λ_=>ac.out) ?_;clear o K;refine bZ (i:=4) (j:=8) rfl rfl (by kernel_rfl) rfl rfl (λK o=>?_) (λK o=>?_)
      · skip;go_simp;go_at_call 179;refine a0c (HY _ (F.trans (ac.mono (a0d _ _)))) ?_;rintro e W2 ⟨rfl,cm⟩;have bw:=a0a (btr ac.out cm (by have:=y.out;have:=ac.out.size;omega));have gz:=a0a (⟨bb.1.block (cm.block _ bb.1.lt),bb.2⟩:aJ W2 _ []/\_);clear cm;refine o _ _ (λ_=>bw.out) ?_;clear o K;refine tkS 7 ?_ rfl bw.out ?_ ?_;rotate_left;intro w' h;go_simp;rfl;try go_simp
        refine dO 8 rfl λK o=>?_;go_simp;have hd:Hid ((W2.alloc (.cells #[.map none,S [], .slice none 0 0, .int .i64 0, .int .u8 0] 208)).heap[W2.heap.size]? =some (.cells #[.map none,S [], .slice none 0 0, .int .i64 0, .int .u8 0] 208 (0,0))/\w.heap.size+2<=W2.heap.size):=⟨a0b _ _,(by have:=y.out;have:=bw.out.size;omega)⟩;have gQ:Hid (a0f (w.heap.size+2) w1 (W2.alloc (.cells #[.map none,S [], .slice none 0 0, .int .i64 0, .int .u8 0] 208))):=bw.out.alloc (by have:=y.out;have:=bw.out.size;omega) _;have dz:=a0a (⟨gz.1.alloc _,gz.2⟩:aJ (W2.alloc (.cells #[.map none,S [], .slice none 0 0, .int .i64 0, .int .u8 0] 208)) _ []/\_);refine o _ _ (λ_=>gQ.out) ?_;clear o K;generalize W2.alloc (.cells #[.map none,S [], .slice none 0 0, .int .i64 0, .int .u8 0] 208)=W3 at *;have m:=hd.1;have f0:=ab m 0;have f1:=ab m 1;have N:=ab m 2;have f3:=ab m 3;have f4:=ab m 4;have P:=(aa m 0).trans rfl;have Q:=(aa m 1).trans rfl;have U:=(aa m 2).trans rfl;have V:=(aa m 3).trans rfl;have Y:=(aa m 4).trans rfl;clear m;refine dO 9 rfl λK o=>?_;go_simp;have z:=dY (a:= .map (some H.heap.size)) (b:=S (aO r)) (c:= .slice none 0 0) (d:= .int .i64 (bC r)) (e:= .int .u8 k.toNat) hd.out dz.out gQ.out _ rfl;refine o _ _ (λ_=>z.2.2.2) ?_;clear o K;refine dN ?_;have u:=a0a z;clear z;go_wp2_with fail
        go_meet;exact ⟨_,_,rfl,u.1,u.2.1,u.2.2.1,u.2.2.2⟩
      · skip;go_simp;have a8:Hid ((W1.alloc (.cells #[.map none,S [], .slice none 0 0, .int .i64 0, .int .u8 0] 208)).heap[W1.heap.size]? =some (.cells #[.map none,S [], .slice none 0 0, .int .i64 0, .int .u8 0] 208 (0,0))/\w.heap.size+2<=W1.heap.size):=⟨a0b _ _,(by have:=y.out;have:=ac.out.size;omega)⟩;have cc:Hid (a0f (w.heap.size+2) w1 (W1.alloc (.cells #[.map none,S [], .slice none 0 0, .int .i64 0, .int .u8 0] 208))):=ac.out.alloc (by have:=y.out;have:=ac.out.size;omega) _;have bk:=a0a (⟨bb.1.alloc _,bb.2⟩:aJ (W1.alloc (.cells #[.map none,S [], .slice none 0 0, .int .i64 0, .int .u8 0] 208)) _ []/\_);refine o _ _ (λ_=>cc.out) ?_;clear o K;generalize W1.alloc (.cells #[.map none,S [], .slice none 0 0, .int .i64 0, .int .u8 0] 208)=W4 at *;refine dO 4 rfl λK o=>?_;go_simp;go_at_call 179;refine a0c (HY _ (F.trans (cc.mono (a0d _ _)))) ?_;rintro e W5 ⟨rfl,aS⟩;have eq:=a0a (btr cc.out aS (by have:=y.out;have:=cc.out.size;omega));have i2:=a0a (⟨bk.1.block (aS.block _ bk.1.lt),bk.2⟩:aJ W5 _ []/\_);have hh:=a0a (⟨(aS.block _ (ae a8.1)).trans a8.1,a8.2⟩:W5.heap[_]? =_/\_);clear aS;refine o _ _ (λ_=>eq.out) ?_;clear o K;refine tkS 7 ?_ rfl eq.out ?_ ?_;rotate_left;intro w' h;go_simp;rfl;try go_simp
        have m:=hh.1;have f0:=ab m 0;have f1:=ab m 1;have N:=ab m 2;have f3:=ab m 3;have f4:=ab m 4;have P:=(aa m 0).trans rfl;have Q:=(aa m 1).trans rfl;have U:=(aa m 2).trans rfl;have V:=(aa m 3).trans rfl;have Y:=(aa m 4).trans rfl;clear m;refine dO 9 rfl λK o=>?_;go_simp;have z:=dY (a:= .map (some H.heap.size)) (b:=S (aO r)) (c:= .slice none 0 0) (d:= .int .i64 (bC r)) (e:= .int .u8 k.toNat) hh.out i2.out eq.out _ rfl;refine o _ _ (λ_=>z.2.2.2) ?_;clear o K;refine dN ?_;have u:=a0a z;clear z;go_wp2_with fail
        go_meet;exact ⟨_,_,rfl,u.1,u.2.1,u.2.2.1,u.2.2.2⟩
    · skip;go_simp;have fr:Hid ((W0.alloc (.cells #[.map none,S [], .slice none 0 0, .int .i64 0, .int .u8 0] 208)).heap[W0.heap.size]? =some (.cells #[.map none,S [], .slice none 0 0, .int .i64 0, .int .u8 0] 208 (0,0))/\w.heap.size+2<=W0.heap.size):=⟨a0b _ _,(by have:=y.out;have:=a9.out.size;omega)⟩;have cd:Hid (a0f (w.heap.size+2) w1 (W0.alloc (.cells #[.map none,S [], .slice none 0 0, .int .i64 0, .int .u8 0] 208))):=a9.out.alloc (by have:=y.out;have:=a9.out.size;omega) _;have e4:=a0a (⟨b9.1.alloc _,b9.2⟩:aJ (W0.alloc (.cells #[.map none,S [], .slice none 0 0, .int .i64 0, .int .u8 0] 208)) _ []/\_);refine o _ _ (λ_=>cd.out) ?_;clear o K;generalize W0.alloc (.cells #[.map none,S [], .slice none 0 0, .int .i64 0, .int .u8 0] 208)=W6 at *;refine dO 2 rfl λK o=>?_;go_simp;go_at_call 178;refine a0c (HT _ (F.trans (cd.mono (a0d _ _)))) ?_;rintro e W7 ⟨rfl,cy⟩;have cg:=a0a (btr cd.out cy (by have:=y.out;have:=cd.out.size;omega));have e5:=a0a (⟨e4.1.block (cy.block _ e4.1.lt),e4.2⟩:aJ W7 _ []/\_);have ft:=a0a (⟨(cy.block _ (ae fr.1)).trans fr.1,fr.2⟩:W7.heap[_]? =_/\_);clear cy;refine o _ _ (λ_=>cg.out) ?_;clear o K;refine dO 4 rfl λK o=>?_;go_simp;go_at_call 179;refine a0c (HY _ (F.trans (cg.mono (a0d _ _)))) ?_;rintro e W8 ⟨rfl,cz⟩;have er:=a0a (btr cg.out cz (by have:=y.out;have:=cg.out.size;omega));have i4:=a0a (⟨e5.1.block (cz.block _ e5.1.lt),e5.2⟩:aJ W8 _ []/\_);have hi:=a0a (⟨(cz.block _ (ae ft.1)).trans ft.1,ft.2⟩:W8.heap[_]? =_/\_);clear cz;refine o _ _ (λ_=>er.out) ?_;clear o K;refine tkS 7 ?_ rfl er.out ?_ ?_;rotate_left;intro w' h;go_simp;rfl;try go_simp
      have m:=hi.1;have f0:=ab m 0;have f1:=ab m 1;have N:=ab m 2;have f3:=ab m 3;have f4:=ab m 4;have P:=(aa m 0).trans rfl;have Q:=(aa m 1).trans rfl;have U:=(aa m 2).trans rfl;have V:=(aa m 3).trans rfl;have Y:=(aa m 4).trans rfl;clear m;refine dO 9 rfl λK o=>?_;go_simp;have z:=dY (a:= .map (some H.heap.size)) (b:=S (aO r)) (c:= .slice none 0 0) (d:= .int .i64 (bC r)) (e:= .int .u8 k.toNat) hi.out i4.out er.out _ rfl;refine o _ _ (λ_=>z.2.2.2) ?_;clear o K;refine dN ?_;have u:=a0a z;clear z;go_wp2_with fail
      go_meet;exact ⟨_,_,rfl,u.1,u.2.1,u.2.2.1,u.2.2.2⟩
  · skip;go_simp;go_at_call 178;refine a0c (HT _ (F.trans (Z.mono (a0d _ _)))) ?_;rintro e M ⟨rfl,hA⟩;have a2:=a0a (btr Z.out hA (by have:=y.out;have:=Z.out.size;omega));clear hA;refine o _ _ (λ_=>a2.out) ?_;clear o K;refine lI (i:=0) (j:=4) (k:=8) rfl rfl rfl (by kernel_rfl) rfl rfl rfl (λK o=>?_) (λK o=>?_) (λK o=>?_)
    · skip;go_simp;have bc:Hid (aJ (M.alloc (.map #[] 0)) M.heap.size []/\w.heap.size+2<=M.heap.size):=⟨c8 _,(by have:=y.out;have:=a2.out.size;omega)⟩;have ad:Hid (a0f (w.heap.size+2) w1 (M.alloc (.map #[] 0))):=a2.out.alloc (by have:=y.out;have:=a2.out.size;omega) _;refine o _ _ (λ_=>ad.out) ?_;clear o K;generalize M.alloc (.map #[] 0)=W10 at *;refine bZ (i:=4) (j:=8) rfl rfl (by kernel_rfl) rfl rfl (λK o=>?_) (λK o=>?_)
      · skip;go_simp;go_at_call 179;refine a0c (HY _ (F.trans (ad.mono (a0d _ _)))) ?_;rintro e ay ⟨rfl,fx⟩;have bt:=a0a (btr ad.out fx (by have:=y.out;have:=ad.out.size;omega));have gx:=a0a (⟨bc.1.block (fx.block _ bc.1.lt),bc.2⟩:aJ ay _ []/\_);clear fx;refine o _ _ (λ_=>bt.out) ?_;clear o K;refine tkS 7 ?_ rfl bt.out ?_ ?_;rotate_left;intro w' h;go_simp;rfl;try go_simp
        refine dO 8 rfl λK o=>?_;go_simp;have h5:Hid ((ay.alloc (.cells #[.map none,S [], .slice none 0 0, .int .i64 0, .int .u8 0] 208)).heap[ay.heap.size]? =some (.cells #[.map none,S [], .slice none 0 0, .int .i64 0, .int .u8 0] 208 (0,0))/\w.heap.size+2<=ay.heap.size):=⟨a0b _ _,(by have:=y.out;have:=bt.out.size;omega)⟩;have gO:Hid (a0f (w.heap.size+2) w1 (ay.alloc (.cells #[.map none,S [], .slice none 0 0, .int .i64 0, .int .u8 0] 208))):=bt.out.alloc (by have:=y.out;have:=bt.out.size;omega) _;have hP:=a0a (⟨gx.1.alloc _,gx.2⟩:aJ (ay.alloc (.cells #[.map none,S [], .slice none 0 0, .int .i64 0, .int .u8 0] 208)) _ []/\_);refine o _ _ (λ_=>gO.out) ?_;clear o K;generalize ay.alloc (.cells #[.map none,S [], .slice none 0 0, .int .i64 0, .int .u8 0] 208)=W12 at *;have m:=h5.1;have f0:=ab m 0;have f1:=ab m 1;have N:=ab m 2;have f3:=ab m 3;have f4:=ab m 4;have P:=(aa m 0).trans rfl;have Q:=(aa m 1).trans rfl;have U:=(aa m 2).trans rfl;have V:=(aa m 3).trans rfl;have Y:=(aa m 4).trans rfl;clear m;refine dO 9 rfl λK o=>?_;go_simp;have z:=dY (a:= .map (some M.heap.size)) (b:=S (aO r)) (c:= .slice none 0 0) (d:= .int .i64 (bC r)) (e:= .int .u8 k.toNat) h5.out hP.out gO.out _ rfl;refine o _ _ (λ_=>z.2.2.2) ?_;clear o K;refine dN ?_;have u:=a0a z;clear z;go_wp2_with fail
        go_meet;exact ⟨_,_,rfl,u.1,u.2.1,u.2.2.1,u.2.2.2⟩
      · skip;go_simp;have eQ:Hid ((W10.alloc (.cells #[.map none,S [], .slice none 0 0, .int .i64 0, .int .u8 0] 208)).heap[W10.heap.size]? =some (.cells #[.map none,S [], .slice none 0 0, .int .i64 0, .int .u8 0] 208 (0,0))/\w.heap.size+2<=W10.heap.size):=⟨a0b _ _,(by have:=y.out;have:=ad.out.size;omega)⟩;have c2:Hid (a0f (w.heap.size+2) w1 (W10.alloc (.cells #[.map none,S [], .slice none 0 0, .int .i64 0, .int .u8 0] 208))):=ad.out.alloc (by have:=y.out;have:=ad.out.size;omega) _;have dk:=a0a (⟨bc.1.alloc _,bc.2⟩:aJ (W10.alloc (.cells #[.map none,S [], .slice none 0 0, .int .i64 0, .int .u8 0] 208)) _ []/\_);refine o _ _ (λ_=>c2.out) ?_;clear o K;generalize W10.alloc (.cells #[.map none,S [], .slice none 0 0, .int .i64 0, .int .u8 0] 208)=W13 at *;refine dO 4 rfl λK o=>?_;go_simp;go_at_call 179;refine a0c (HY _ (F.trans (c2.mono (a0d _ _)))) ?_;rintro e hl ⟨rfl,cl⟩;have e6:=a0a (btr c2.out cl (by have:=y.out;have:=c2.out.size;omega));have hQ:=a0a (⟨dk.1.block (cl.block _ dk.1.lt),dk.2⟩:aJ hl _ []/\_);have h6:=a0a (⟨(cl.block _ (ae eQ.1)).trans eQ.1,eQ.2⟩:hl.heap[_]? =_/\_);clear cl;refine o _ _ (λ_=>e6.out) ?_;clear o K;refine tkS 7 ?_ rfl e6.out ?_ ?_;rotate_left;intro w' h;go_simp;rfl;try go_simp
        have m:=h6.1;have f0:=ab m 0;have f1:=ab m 1;have N:=ab m 2;have f3:=ab m 3;have f4:=ab m 4;have P:=(aa m 0).trans rfl;have Q:=(aa m 1).trans rfl;have U:=(aa m 2).trans rfl;have V:=(aa m 3).trans rfl;have Y:=(aa m 4).trans rfl;clear m;refine dO 9 rfl λK o=>?_;go_simp;have z:=dY (a:= .map (some M.heap.size)) (b:=S (aO r)) (c:= .slice none 0 0) (d:= .int .i64 (bC r)) (e:= .int .u8 k.toNat) h6.out hQ.out e6.out _ rfl;refine o _ _ (λ_=>z.2.2.2) ?_;clear o K;refine dN ?_;have u:=a0a z;clear z;go_wp2_with fail
        go_meet;exact ⟨_,_,rfl,u.1,u.2.1,u.2.2.1,u.2.2.2⟩
    · skip;go_simp;go_at_call 179;refine a0c (HY _ (F.trans (a2.mono (a0d _ _)))) ?_;rintro e a1 ⟨rfl,hy⟩;have al:=a0a (btr a2.out hy (by have:=y.out;have:=a2.out.size;omega));clear hy;refine o _ _ (λ_=>al.out) ?_;clear o K;refine bZ (i:=0) (j:=8) rfl rfl (by kernel_rfl) rfl rfl (λK o=>?_) (λK o=>?_)
      · skip;go_simp;have gy:Hid (aJ (a1.alloc (.map #[] 0)) a1.heap.size []/\w.heap.size+2<=a1.heap.size):=⟨c8 _,(by have:=y.out;have:=al.out.size;omega)⟩;have bv:Hid (a0f (w.heap.size+2) w1 (a1.alloc (.map #[] 0))):=al.out.alloc (by have:=y.out;have:=al.out.size;omega) _;refine o _ _ (λ_=>bv.out) ?_;clear o K;generalize a1.alloc (.map #[] 0)=W16 at *;refine tkS 7 ?_ rfl bv.out ?_ ?_;rotate_left;intro w' h;go_simp;rfl;try go_simp
        refine dO 8 rfl λK o=>?_;go_simp;have h7:Hid ((W16.alloc (.cells #[.map none,S [], .slice none 0 0, .int .i64 0, .int .u8 0] 208)).heap[W16.heap.size]? =some (.cells #[.map none,S [], .slice none 0 0, .int .i64 0, .int .u8 0] 208 (0,0))/\w.heap.size+2<=W16.heap.size):=⟨a0b _ _,(by have:=y.out;have:=bv.out.size;omega)⟩;have gP:Hid (a0f (w.heap.size+2) w1 (W16.alloc (.cells #[.map none,S [], .slice none 0 0, .int .i64 0, .int .u8 0] 208))):=bv.out.alloc (by have:=y.out;have:=bv.out.size;omega) _;have hS:=a0a (⟨gy.1.alloc _,gy.2⟩:aJ (W16.alloc (.cells #[.map none,S [], .slice none 0 0, .int .i64 0, .int .u8 0] 208)) _ []/\_);refine o _ _ (λ_=>gP.out) ?_;clear o K;generalize W16.alloc (.cells #[.map none,S [], .slice none 0 0, .int .i64 0, .int .u8 0] 208)=W17 at *;have m:=h7.1;have f0:=ab m 0;have f1:=ab m 1;have N:=ab m 2;have f3:=ab m 3;have f4:=ab m 4;have P:=(aa m 0).trans rfl;have Q:=(aa m 1).trans rfl;have U:=(aa m 2).trans rfl;have V:=(aa m 3).trans rfl;have Y:=(aa m 4).trans rfl;clear m;refine dO 9 rfl λK o=>?_;go_simp;have z:=dY (a:= .map (some a1.heap.size)) (b:=S (aO r)) (c:= .slice none 0 0) (d:= .int .i64 (bC r)) (e:= .int .u8 k.toNat) h7.out hS.out gP.out _ rfl;refine o _ _ (λ_=>z.2.2.2) ?_;clear o K;refine dN ?_;have u:=a0a z;clear z;go_wp2_with fail
        go_meet;exact ⟨_,_,rfl,u.1,u.2.1,u.2.2.1,u.2.2.2⟩
      · skip;go_simp;have f5:Hid ((a1.alloc (.cells #[.map none,S [], .slice none 0 0, .int .i64 0, .int .u8 0] 208)).heap[a1.heap.size]? =some (.cells #[.map none,S [], .slice none 0 0, .int .i64 0, .int .u8 0] 208 (0,0))/\w.heap.size+2<=a1.heap.size):=⟨a0b _ _,(by have:=y.out;have:=al.out.size;omega)⟩;have c3:Hid (a0f (w.heap.size+2) w1 (a1.alloc (.cells #[.map none,S [], .slice none 0 0, .int .i64 0, .int .u8 0] 208))):=al.out.alloc (by have:=y.out;have:=al.out.size;omega) _;refine o _ _ (λ_=>c3.out) ?_;clear o K;generalize a1.alloc (.cells #[.map none,S [], .slice none 0 0, .int .i64 0, .int .u8 0] 208)=W18 at *;refine dO 0 rfl λK o=>?_;go_simp;have hV:Hid (aJ (W18.alloc (.map #[] 0)) W18.heap.size []/\w.heap.size+2<=W18.heap.size):=⟨c8 _,(by have:=y.out;have:=c3.out.size;omega)⟩;have e7:Hid (a0f (w.heap.size+2) w1 (W18.alloc (.map #[] 0))):=c3.out.alloc (by have:=y.out;have:=c3.out.size;omega) _;have h8:=a0a (⟨(a0e W18 (.map #[] 0) _ (ae f5.1)).trans f5.1,f5.2⟩:(W18.alloc (.map #[] 0)).heap[_]? =_/\_);refine o _ _ (λ_=>e7.out) ?_;clear o K;generalize W18.alloc (.map #[] 0)=W19 at *;refine tkS 7 ?_ rfl e7.out ?_ ?_;rotate_left;intro w' h;go_simp;rfl;try go_simp
        have m:=h8.1;have f0:=ab m 0;have f1:=ab m 1;have N:=ab m 2;have f3:=ab m 3;have f4:=ab m 4;have P:=(aa m 0).trans rfl;have Q:=(aa m 1).trans rfl;have U:=(aa m 2).trans rfl;have V:=(aa m 3).trans rfl;have Y:=(aa m 4).trans rfl;clear m;refine dO 9 rfl λK o=>?_;go_simp;have z:=dY (a:= .map (some W18.heap.size)) (b:=S (aO r)) (c:= .slice none 0 0) (d:= .int .i64 (bC r)) (e:= .int .u8 k.toNat) h8.out hV.out e7.out _ rfl;refine o _ _ (λ_=>z.2.2.2) ?_;clear o K;refine dN ?_;have u:=a0a z;clear z;go_wp2_with fail
        go_meet;exact ⟨_,_,rfl,u.1,u.2.1,u.2.2.1,u.2.2.2⟩
    · skip;go_simp;have b2:Hid ((M.alloc (.cells #[.map none,S [], .slice none 0 0, .int .i64 0, .int .u8 0] 208)).heap[M.heap.size]? =some (.cells #[.map none,S [], .slice none 0 0, .int .i64 0, .int .u8 0] 208 (0,0))/\w.heap.size+2<=M.heap.size):=⟨a0b _ _,(by have:=y.out;have:=a2.out.size;omega)⟩;have ao:Hid (a0f (w.heap.size+2) w1 (M.alloc (.cells #[.map none,S [], .slice none 0 0, .int .i64 0, .int .u8 0] 208))):=a2.out.alloc (by have:=y.out;have:=a2.out.size;omega) _;refine o _ _ (λ_=>ao.out) ?_;clear o K;generalize M.alloc (.cells #[.map none,S [], .slice none 0 0, .int .i64 0, .int .u8 0] 208)=W20 at *;refine bZ (i:=0) (j:=4) rfl rfl (by kernel_rfl) rfl rfl (λK o=>?_) (λK o=>?_)
      · skip;go_simp;have ds:Hid (aJ (W20.alloc (.map #[] 0)) W20.heap.size []/\w.heap.size+2<=W20.heap.size):=⟨c8 _,(by have:=y.out;have:=ao.out.size;omega)⟩;have c4:Hid (a0f (w.heap.size+2) w1 (W20.alloc (.map #[] 0))):=ao.out.alloc (by have:=y.out;have:=ao.out.size;omega) _;have f6:=a0a (⟨(a0e W20 (.map #[] 0) _ (ae b2.1)).trans b2.1,b2.2⟩:(W20.alloc (.map #[] 0)).heap[_]? =_/\_);refine o _ _ (λ_=>c4.out) ?_;clear o K;generalize W20.alloc (.map #[] 0)=W21 at *;refine dO 4 rfl λK o=>?_;go_simp;go_at_call 179;refine a0c (HY _ (F.trans (c4.mono (a0d _ _)))) ?_;rintro e hn ⟨rfl,cp⟩;have e8:=a0a (btr c4.out cp (by have:=y.out;have:=c4.out.size;omega));have hW:=a0a (⟨ds.1.block (cp.block _ ds.1.lt),ds.2⟩:aJ hn _ []/\_);have h9:=a0a (⟨(cp.block _ (ae f6.1)).trans f6.1,f6.2⟩:hn.heap[_]? =_/\_);clear cp;refine o _ _ (λ_=>e8.out) ?_;clear o K;refine tkS 7 ?_ rfl e8.out ?_ ?_;rotate_left;intro w' h;go_simp;rfl;try go_simp
        have m:=h9.1;have f0:=ab m 0;have f1:=ab m 1;have N:=ab m 2;have f3:=ab m 3;have f4:=ab m 4;have P:=(aa m 0).trans rfl;have Q:=(aa m 1).trans rfl;have U:=(aa m 2).trans rfl;have V:=(aa m 3).trans rfl;have Y:=(aa m 4).trans rfl;clear m;refine dO 9 rfl λK o=>?_;go_simp;have z:=dY (a:= .map (some W20.heap.size)) (b:=S (aO r)) (c:= .slice none 0 0) (d:= .int .i64 (bC r)) (e:= .int .u8 k.toNat) h9.out hW.out e8.out _ rfl;refine o _ _ (λ_=>z.2.2.2) ?_;clear o K;refine dN ?_;have u:=a0a z;clear z;go_wp2_with fail
        go_meet;exact ⟨_,_,rfl,u.1,u.2.1,u.2.2.1,u.2.2.2⟩
      · skip;go_simp;go_at_call 179;refine a0c (HY _ (F.trans (ao.mono (a0d _ _)))) ?_;rintro e a4 ⟨rfl,fy⟩;have c5:=a0a (btr ao.out fy (by have:=y.out;have:=ao.out.size;omega));have f8:=a0a (⟨(fy.block _ (ae b2.1)).trans b2.1,b2.2⟩:a4.heap[_]? =_/\_);clear fy;refine o _ _ (λ_=>c5.out) ?_;clear o K;refine dO 0 rfl λK o=>?_;go_simp;have hX:Hid (aJ (a4.alloc (.map #[] 0)) a4.heap.size []/\w.heap.size+2<=a4.heap.size):=⟨c8 _,(by have:=y.out;have:=c5.out.size;omega)⟩;have e9:Hid (a0f (w.heap.size+2) w1 (a4.alloc (.map #[] 0))):=c5.out.alloc (by have:=y.out;have:=c5.out.size;omega) _;have ha:=a0a (⟨(a0e a4 (.map #[] 0) _ (ae f8.1)).trans f8.1,f8.2⟩:(a4.alloc (.map #[] 0)).heap[_]? =_/\_);refine o _ _ (λ_=>e9.out) ?_;clear o K;generalize a4.alloc (.map #[] 0)=W24 at *;refine tkS 7 ?_ rfl e9.out ?_ ?_;rotate_left;intro w' h;go_simp;rfl;try go_simp
        have m:=ha.1;have f0:=ab m 0;have f1:=ab m 1;have N:=ab m 2;have f3:=ab m 3;have f4:=ab m 4;have P:=(aa m 0).trans rfl;have Q:=(aa m 1).trans rfl;have U:=(aa m 2).trans rfl;have V:=(aa m 3).trans rfl;have Y:=(aa m 4).trans rfl;clear m;refine dO 9 rfl λK o=>?_;go_simp;have z:=dY (a:= .map (some a4.heap.size)) (b:=S (aO r)) (c:= .slice none 0 0) (d:= .int .i64 (bC r)) (e:= .int .u8 k.toNat) ha.out hX.out e9.out _ rfl;refine o _ _ (λ_=>z.2.2.2) ?_;clear o K;refine dN ?_;have u:=a0a z;clear z;go_wp2_with fail
        go_meet;exact ⟨_,_,rfl,u.1,u.2.1,u.2.2.1,u.2.2.2⟩
  · skip;go_simp;have b3:Hid ((H.alloc (.cells #[.map none,S [], .slice none 0 0, .int .i64 0, .int .u8 0] 208)).heap[H.heap.size]? =some (.cells #[.map none,S [], .slice none 0 0, .int .i64 0, .int .u8 0] 208 (0,0))/\w.heap.size+2<=H.heap.size):=⟨a0b _ _,(by have:=y.out;have:=Z.out.size;omega)⟩;have au:Hid (a0f (w.heap.size+2) w1 (H.alloc (.cells #[.map none,S [], .slice none 0 0, .int .i64 0, .int .u8 0] 208))):=Z.out.alloc (by have:=y.out;have:=Z.out.size;omega) _;refine o _ _ (λ_=>au.out) ?_;clear o K;generalize H.alloc (.cells #[.map none,S [], .slice none 0 0, .int .i64 0, .int .u8 0] 208)=W25 at *;refine bZ (i:=0) (j:=2) rfl rfl (by kernel_rfl) rfl rfl (λK o=>?_) (λK o=>?_)
    · skip;go_simp;have dx:Hid (aJ (W25.alloc (.map #[] 0)) W25.heap.size []/\w.heap.size+2<=W25.heap.size):=⟨c8 _,(by have:=y.out;have:=au.out.size;omega)⟩;have c6:Hid (a0f (w.heap.size+2) w1 (W25.alloc (.map #[] 0))):=au.out.alloc (by have:=y.out;have:=au.out.size;omega) _;have f9:=a0a (⟨(a0e W25 (.map #[] 0) _ (ae b3.1)).trans b3.1,b3.2⟩:(W25.alloc (.map #[] 0)).heap[_]? =_/\_);refine o _ _ (λ_=>c6.out) ?_;clear o K;generalize W25.alloc (.map #[] 0)=W26 at *;refine dO 2 rfl λK o=>?_;go_simp;go_at_call 178;refine a0c (HT _ (F.trans (c6.mono (a0d _ _)))) ?_;rintro e ho ⟨rfl,cq⟩;have c7:=a0a (btr c6.out cq (by have:=y.out;have:=c6.out.size;omega));have dy:=a0a (⟨dx.1.block (cq.block _ dx.1.lt),dx.2⟩:aJ ho _ []/\_);have fc:=a0a (⟨(cq.block _ (ae f9.1)).trans f9.1,f9.2⟩:ho.heap[_]? =_/\_);clear cq;refine o _ _ (λ_=>c7.out) ?_;clear o K;refine dO 4 rfl λK o=>?_;go_simp;go_at_call 179;refine a0c (HY _ (F.trans (c7.mono (a0d _ _)))) ?_;rintro e hr ⟨rfl,cu⟩;have eg:=a0a (btr c7.out cu (by have:=y.out;have:=c7.out.size;omega));have hY:=a0a (⟨dy.1.block (cu.block _ dy.1.lt),dy.2⟩:aJ hr _ []/\_);have hc:=a0a (⟨(cu.block _ (ae fc.1)).trans fc.1,fc.2⟩:hr.heap[_]? =_/\_);clear cu;refine o _ _ (λ_=>eg.out) ?_;clear o K;refine tkS 7 ?_ rfl eg.out ?_ ?_;rotate_left;intro w' h;go_simp;rfl;try go_simp
      have m:=hc.1;have f0:=ab m 0;have f1:=ab m 1;have N:=ab m 2;have f3:=ab m 3;have f4:=ab m 4;have P:=(aa m 0).trans rfl;have Q:=(aa m 1).trans rfl;have U:=(aa m 2).trans rfl;have V:=(aa m 3).trans rfl;have Y:=(aa m 4).trans rfl;clear m;refine dO 9 rfl λK o=>?_;go_simp;have z:=dY (a:= .map (some W25.heap.size)) (b:=S (aO r)) (c:= .slice none 0 0) (d:= .int .i64 (bC r)) (e:= .int .u8 k.toNat) hc.out hY.out eg.out _ rfl;refine o _ _ (λ_=>z.2.2.2) ?_;clear o K;refine dN ?_;have u:=a0a z;clear z;go_wp2_with fail
      go_meet;exact ⟨_,_,rfl,u.1,u.2.1,u.2.2.1,u.2.2.2⟩
    · skip;go_simp;go_at_call 178;refine a0c (HT _ (F.trans (au.mono (a0d _ _)))) ?_;rintro e a5 ⟨rfl,fz⟩;have av:=a0a (btr au.out fz (by have:=y.out;have:=au.out.size;omega));have b4:=a0a (⟨(fz.block _ (ae b3.1)).trans b3.1,b3.2⟩:a5.heap[_]? =_/\_);clear fz;refine o _ _ (λ_=>av.out) ?_;clear o K;refine bZ (i:=0) (j:=4) rfl rfl (by kernel_rfl) rfl rfl (λK o=>?_) (λK o=>?_)
      · skip;go_simp;have dB:Hid (aJ (a5.alloc (.map #[] 0)) a5.heap.size []/\w.heap.size+2<=a5.heap.size):=⟨c8 _,(by have:=y.out;have:=av.out.size;omega)⟩;have c9:Hid (a0f (w.heap.size+2) w1 (a5.alloc (.map #[] 0))):=av.out.alloc (by have:=y.out;have:=av.out.size;omega) _;have fl:=a0a (⟨(a0e a5 (.map #[] 0) _ (ae b4.1)).trans b4.1,b4.2⟩:(a5.alloc (.map #[] 0)).heap[_]? =_/\_);refine o _ _ (λ_=>c9.out) ?_;clear o K;generalize a5.alloc (.map #[] 0)=W30 at *;refine dO 4 rfl λK o=>?_;go_simp;go_at_call 179;refine a0c (HY _ (F.trans (c9.mono (a0d _ _)))) ?_;rintro e ht ⟨rfl,cv⟩;have ej:=a0a (btr c9.out cv (by have:=y.out;have:=c9.out.size;omega));have i0:=a0a (⟨dB.1.block (cv.block _ dB.1.lt),dB.2⟩:aJ ht _ []/\_);have he:=a0a (⟨(cv.block _ (ae fl.1)).trans fl.1,fl.2⟩:ht.heap[_]? =_/\_);clear cv;refine o _ _ (λ_=>ej.out) ?_;clear o K;refine tkS 7 ?_ rfl ej.out ?_ ?_;rotate_left;intro w' h;go_simp;rfl;try go_simp
        have m:=he.1;have f0:=ab m 0;have f1:=ab m 1;have N:=ab m 2;have f3:=ab m 3;have f4:=ab m 4;have P:=(aa m 0).trans rfl;have Q:=(aa m 1).trans rfl;have U:=(aa m 2).trans rfl;have V:=(aa m 3).trans rfl;have Y:=(aa m 4).trans rfl;clear m;refine dO 9 rfl λK o=>?_;go_simp;have z:=dY (a:= .map (some a5.heap.size)) (b:=S (aO r)) (c:= .slice none 0 0) (d:= .int .i64 (bC r)) (e:= .int .u8 k.toNat) he.out i0.out ej.out _ rfl;refine o _ _ (λ_=>z.2.2.2) ?_;clear o K;refine dN ?_;have u:=a0a z;clear z;go_wp2_with fail
        go_meet;exact ⟨_,_,rfl,u.1,u.2.1,u.2.2.1,u.2.2.2⟩
      · skip;go_simp;go_at_call 179;refine a0c (HY _ (F.trans (av.mono (a0d _ _)))) ?_;rintro e a6 ⟨rfl,g4⟩;have cb:=a0a (btr av.out g4 (by have:=y.out;have:=av.out.size;omega));have fp:=a0a (⟨(g4.block _ (ae b4.1)).trans b4.1,b4.2⟩:a6.heap[_]? =_/\_);clear g4;refine o _ _ (λ_=>cb.out) ?_;clear o K;refine dO 0 rfl λK o=>?_;go_simp;have i1:Hid (aJ (a6.alloc (.map #[] 0)) a6.heap.size []/\w.heap.size+2<=a6.heap.size):=⟨c8 _,(by have:=y.out;have:=cb.out.size;omega)⟩;have em:Hid (a0f (w.heap.size+2) w1 (a6.alloc (.map #[] 0))):=cb.out.alloc (by have:=y.out;have:=cb.out.size;omega) _;have hf:=a0a (⟨(a0e a6 (.map #[] 0) _ (ae fp.1)).trans fp.1,fp.2⟩:(a6.alloc (.map #[] 0)).heap[_]? =_/\_);refine o _ _ (λ_=>em.out) ?_;clear o K;generalize a6.alloc (.map #[] 0)=W33 at *;refine tkS 7 ?_ rfl em.out ?_ ?_;rotate_left;intro w' h;go_simp;rfl;try go_simp
        have m:=hf.1;have f0:=ab m 0;have f1:=ab m 1;have N:=ab m 2;have f3:=ab m 3;have f4:=ab m 4;have P:=(aa m 0).trans rfl;have Q:=(aa m 1).trans rfl;have U:=(aa m 2).trans rfl;have V:=(aa m 3).trans rfl;have Y:=(aa m 4).trans rfl;clear m;refine dO 9 rfl λK o=>?_;go_simp;have z:=dY (a:= .map (some a6.heap.size)) (b:=S (aO r)) (c:= .slice none 0 0) (d:= .int .i64 (bC r)) (e:= .int .u8 k.toNat) hf.out i1.out em.out _ rfl;refine o _ _ (λ_=>z.2.2.2) ?_;clear o K;refine dN ?_;have u:=a0a z;clear z;go_wp2_with fail
        go_meet;exact ⟨_,_,rfl,u.1,u.2.1,u.2.2.1,u.2.2.2⟩
 case rest=>
  obtain ⟨T,B,rfl,hj,gf,b5,bO⟩:=hcut;have g7:OfS (w.heap.size+2) w1 T B #[.map (some B),S (aO r), .slice none 0 0, .int .i64 (bC r), .int .u8 k.toNat] wc []:=⟨bO.out,hj.out,gf.out,b5.out.1,b5.out.2,by have:=bO.out.size;have:=y.out;omega⟩;obtain ⟨cs,g5⟩:∃cs:Array a0n, #[.map (some B),S (aO r), .slice none 0 0, .int .i64 (bC r), .int .u8 k.toNat]=cs:=⟨_,rfl⟩;rw [g5] at g7;have gn:=a0a g5;have it:=a0a g7;have hw:=(bO.out.block w.heap.size (by omega)).trans HR.out;have s2:wc.cell? ⟨w.heap.size,2,none⟩=some (.slice a0 r.length c0):=(aa hw 2).trans rfl;have gq:Hid (∀W bs,OfS (w.heap.size+2) w1 T B cs W bs->a0f w.heap.size w W):=λW bs h=>F.out.trans (h.b.mono (by omega));clear g7 g5 hw hj gf bO r0 r1 r2;go_wp2_with fail
  go_loopw [23] (λi wr=>∃q:Nat,q<=r.length/\i= .int .i64 q/\Hid (OfS (w.heap.size+2) w1 T B cs wr (booksR (r.take q)))) (λi _=>r.length - (intOf i).toNat)
  case atStart=>exact ⟨0,Nat.zero_le _,rfl,it.out.same (by simp [booksR])⟩
  case round=>
   obtain ⟨q,hq,rfl,b1⟩:=hrel;by_cases hlt:q<r.length
   · have aT:=gq _ _ b1.out;have hD:ai 0 w.heap.size wr (.slice a0 r.length c0) r:=ia _ aT;have k7:w.heap.size<=wr.heap.size:=aT.size;obtain ⟨b,k8,j2,d,hv,aC,cm,e0,e1,e2,e3,b0⟩:=hD.field q hlt;cases hv;have J:=h4.2 _ (List.getElem_mem hlt);have HN:=a0a (lD r q hlt);rw [lG] at HN;have k5:r[q].subs.length<=1000000:=a0q (cF _) J;have ib:Hid (∀s∈r[q].subs,s.text.length<=1000000):=λs hs=>kE J hs;obtain ⟨da,dc,rfl,_⟩:=id b0;have iD:=a0a b0;clear b0 hD J aT;generalize r[q].tag=TG at *;generalize r[q].ind=IN at *;generalize r[q].data=DT at *;generalize r[q].subs=ss at *;obtain ⟨wq,d3⟩:∃wq,wr.alloc (.cells #[S TG,S IN,S DT, .slice da ss.length dc] 123)=wq:=⟨_,rfl⟩;have cP:a0f wr.heap.size wr wq:=by rw [<- d3];exact (a0k _ wr).alloc (a0i _) _
     have hu:wq.heap[wr.heap.size]? =some (.cells #[S TG,S IN,S DT, .slice da ss.length dc] 123 (0,0)):=by rw [<- d3];exact a0b wr _
     have iv:=a0a (b1.below cP);have iF:Hid (az 0 w.heap.size wq (.slice da ss.length dc) ss):=iD.out.kept (λk _ h=>cP.block k (by omega));have iP:=a0a d3;have d8:=a0a hu;have hL:=a0a cP;obtain ⟨R,hR⟩:∃R,wr.heap.size=R:=⟨_,rfl⟩;clear d3 hu cP;go_upto_region 5 with fail
     rw [iP.out];rw [hR] at d8;have h2:=a0a hR;clear hR;have g0:wq.cell? ⟨R,3,none⟩=some (.slice da ss.length dc):=(aa d8.out 3).trans rfl;go_wp2_with fail
     go_loopw [30] (λj wx=>∃p:Nat,p<=ss.length/\j= .int .i64 p/\Hid (OfS (w.heap.size+2) w1 T B cs wx (booksR (r.take q)++bookS TG (ss.take p)))/\Hid (wx.heap[R]? =some (.cells #[S TG,S IN,S DT, .slice da ss.length dc] 123 (0,0)))/\Hid (az 0 w.heap.size wx (.slice da ss.length dc) ss)/\R<=wx.heap.size/\w.heap.size<=R) (λj _=>ss.length - (intOf j).toNat)
     case atStart=>exact ⟨0,Nat.zero_le _,rfl,iv.out.same (by unfold bookS;split<;>simp),d8,iF,by have:=hL.out.size;have:=h2.out;omega,by have:=h2.out;omega⟩
     case round=>
      obtain ⟨p,hp,rfl,a3,G,bA,ja,d2⟩:=hrel;by_cases hlp:p<ss.length
      · obtain ⟨b',k9,j3,hv,_,jb,d0,d1⟩:=bA.sub p hlp;cases hv;have c1:=a0a (lF TG ss p hlp);have k6:=ib _ (List.getElem_mem hlp);generalize ss[p].code=C at *;generalize ss[p].text=X at *;have jn:b'<wr.heap.size:=by omega
        have h0:=a0a (fI r q h4.out);have h3:Hid ((bookS TG (ss.take p)).length<=1000000):=by have h1:=jy TG (ss.take p);rw [a0r] at h1;unfold Hid;omega
        obtain ⟨LB,ch⟩:∃LB,booksR (r.take q)++bookS TG (ss.take p)=LB:=⟨_,rfl⟩;have j4:LB.length<=2000000000000:=by have:=h0.out;have:=h3.out;rw [<- ch,a0o];omega
        rw [ch] at a3;have bY:=a0a ch;clear ch h0 h3;cases hI:isbnR X with
        |none=>
         have b8:Hid (∀W,a0w a0g 180 #[S X] W λe w'=>e= .returned (.tuple #[S [], .bool false])/\a0f W.heap.size W w'):=λW=>by have:=iM X W (by omega);rw [hI] at this;exact this
         have HE:Hid (booksR (r.take q)++bookS TG (ss.take (p+1))=LB):=by unfold Hid;rw [c1.out,hI, <- bY.out];split<;>simp
         clear hI;go_wp2_with (go_at_call 180;((with_reducible refine a0c (b8.out _) ?_);rintro e L ⟨rfl,E⟩;have I:a0f wr.heap.size wr L:=(aZ wr _).trans (E.mono (by simp));have A:=a0a I;clear I E))
         go_roundw
         case rel=>exact ⟨p+1,hlp,by go_num,(a3.out.below A.out).same HE.out,(A.out.block _ (ae G.out)).trans G.out,bA.out.kept (λg _ hg=>A.out.block g (by omega)),by have:=A.out.size;omega,d2⟩
         case measure=>simp [intOf];omega
        |some n=>
         have b8:Hid (∀W,a0w a0g 180 #[S X] W λe w'=>e= .returned (.tuple #[S n, .bool true])/\a0f W.heap.size W w'):=λW=>by have:=iM X W (by omega);rw [hI] at this;exact this
         have k4:n.length<=13:=eK hI;by_cases m:TG=[48,50,48]
         · subst m;by_cases hC:C=97
           · have iQ:((C.toNat:Int)==97)=true:=by rw [hC];rfl
             have HE:Hid (booksR (r.take q)++bookS [48,50,48] (ss.take (p+1))=LB++[n]):=by unfold Hid;rw [c1.out,hI, <- bY.out,if_pos ⟨rfl,hC⟩];simp
             obtain ⟨lb,g1,g2,g3⟩:=a3.k;have gp:=a0a g1;have hO:=a0a g2;have b7:Hid (∀W,a0f wr.heap.size wr W->W.cell? ⟨T,0,none⟩=some (.map (some B))/\W.cell? ⟨R,0,none⟩=some (S [48,50,48])):=λW D=>⟨by rw [aa ((D.block _ (ae a3.out.t)).trans a3.out.t), <- gn.out];rfl,(aa ((D.block _ (ae G.out)).trans G.out) 0).trans rfl⟩
             clear hI hC g1 g2
             go_wp2_with (first
              |(go_at_call 180;((with_reducible refine a0c (b8.out _) ?_);rintro e L ⟨rfl,E⟩;have I:a0f wr.heap.size wr L:=(aZ wr _).trans (E.mono (by simp));obtain ⟨t0,r0⟩:=b7.out L I;have z0:=((aE E).1 wr.heap.size 0 (by simp));have dz:Hid (ak rR L B (lb.map λs=>(s, .bool true))):=gp.out.block (I.block _ gp.out.lt);have A:=a0a I;clear I E))
              |(at_mapUpdate;refine tn _ rfl _ _ _ 206 rfl 4 Tryz.underlying206 B _ rfl dz.out ?_ n ?_ rfl (.bool true) rfl ?_;(focus (rw [List.length_map];unfold maxLen;omega));(focus (show n.length<=maxLen;unfold maxLen;omega));intro w4 hB hF;have bk:=a0a hB;have a8:=a0a (dT hF);clear hB hF))
             go_roundw
             case rel=> obtain ⟨l',e1,e2,e3⟩:=wM lb n;have hm:=bk.out;rw [e1] at hm;have cQ:OfS (w.heap.size+2) w1 T B cs w4 (LB++[n]):=(a3.out.below A.out).put a8.out ⟨l',hm,λs=>by rw [e2,hO.out];simp,by simp;omega⟩;have iS:=mR ((a3.below A.out).k) ((A.block _ (ae G.out)).trans G.out);exact ⟨p+1,hlp,by go_num,cQ.same HE.out,(a8.out.block _ iS).trans ((A.out.block _ (ae G.out)).trans G.out),bA.out.kept (λg _ hg=>(a8.out.block g (by have:=b5.out.1;omega)).trans (A.out.block g (by omega))),by have:=A.out.size;rw [a8.out.size];omega,d2⟩
             case measure=>simp [intOf];omega
           · have iQ:((C.toNat:Int)==97)=false:=by have:C.toNat≠97:=λh=>hC (UInt8.toNat_inj.1 h);simp;omega
             have HE:Hid (booksR (r.take q)++bookS [48,50,48] (ss.take (p+1))=LB):=by unfold Hid;rw [c1.out, <- bY.out,if_neg (λh=>hC h.2),List.append_nil]
             have b7:Hid (∀W,a0f wr.heap.size wr W->W.cell? ⟨R,0,none⟩=some (S [48,50,48])):=λW D=>(aa ((D.block _ (ae G.out)).trans G.out) 0).trans rfl;clear hI hC;go_wp2_with (go_at_call 180;((with_reducible refine a0c (b8.out _) ?_);rintro e L ⟨rfl,E⟩;have I:a0f wr.heap.size wr L:=(aZ wr _).trans (E.mono (by simp));have r0:=b7.out L I;have z0:=((aE E).1 wr.heap.size 0 (by simp));have A:=a0a I;clear I E))
             go_roundw
             case rel=>exact ⟨p+1,hlp,by go_num,(a3.out.below A.out).same HE.out,(A.out.block _ (ae G.out)).trans G.out,bA.out.kept (λg _ hg=>A.out.block g (by omega)),by have:=A.out.size;omega,d2⟩
             case measure=>simp [intOf];omega
         · have HE:Hid (booksR (r.take q)++bookS TG (ss.take (p+1))=LB):=by unfold Hid;rw [c1.out, <- bY.out,if_neg (λh=>m h.1),List.append_nil]
           have b7:Hid (∀W,a0f wr.heap.size wr W->W.cell? ⟨R,0,none⟩=some (S TG)):=λW D=>(aa ((D.block _ (ae G.out)).trans G.out) 0).trans rfl;clear hI;go_wp2_with (go_at_call 180;((with_reducible refine a0c (b8.out _) ?_);rintro e L ⟨rfl,E⟩;have I:a0f wr.heap.size wr L:=(aZ wr _).trans (E.mono (by simp));have r0:=b7.out L I;have z0:=((aE E).1 wr.heap.size 0 (by simp));have A:=a0a I;clear I E))
           go_roundw
           case rel=>exact ⟨p+1,hlp,by go_num,(a3.out.below A.out).same HE.out,(A.out.block _ (ae G.out)).trans G.out,bA.out.kept (λg _ hg=>A.out.block g (by omega)),by have:=A.out.size;omega,d2⟩
           case measure=>simp [intOf];omega
      · have HE:Hid (booksR (r.take (q+1))=booksR (r.take q)++bookS TG (ss.take p)):=by unfold Hid;rw [HN.out,show ss.take p=ss from a0m (by omega)]
        go_wp2_with fail
        go_roundw
        case rel=>exact ⟨q+1,hlt,by go_num,a3.same HE.out⟩
        case measure=>simp [intOf];omega
   · have HE:Hid (booksR r=booksR (r.take q)):=by unfold Hid;rw [a0m (by omega)]
     have aT:=gq _ _ b1.out;have cQ:=b1.same HE.out;have es:=a0a ((b1.out.b.block w.heap.size (by omega)).trans HR.out);have hk:=a0a ((b1.out.b.block (w.heap.size+1) (by omega)).trans HZ.out);have r0:wr.cell? ⟨w.heap.size,0,none⟩=some (.int .u8 k.toNat):=(aa es.out 0).trans rfl;have r1:wr.cell? ⟨w.heap.size,1,none⟩=some (.int .u8 l.toNat):=(aa es.out 1).trans rfl;have r2:wr.cell? ⟨w.heap.size,2,none⟩=some (.slice a0 r.length c0):=(aa es.out 2).trans rfl;have H1:=a0a (HF wr aT);have hM:=a0a aT;have bB:=a0a cQ;clear aT cQ;obtain ⟨g,hg⟩:∃g,(firstF r [49,48,48]).getD zeroF=g:=⟨_,rfl⟩;obtain ⟨tx,g8⟩:∃tx,textF (firstF r [49,48,48]) [97]=tx:=⟨_,rfl⟩;have g9:tx=textS g.subs [97]:=by rw [<- g8, <- hg,mG]
     rw [hg] at H1 ax;rw [g8] at ax gb;obtain ⟨gt,gi,gd,gs⟩:=g;dsimp only at H1 ax g9;have H3:Hid (∀(W:a0j) (d:a0n),az 0 W.heap.size W d gs->a0w a0g 183 #[.agg #[S gt,S gi,S gd,d], .int .u8 97] W λe w'=>e= .returned (S tx)/\a0f W.heap.size W w'):=λW d h=>by rw [g9];exact pw gt gi gd d gs 97 W h ax.1 ax.2.1
     have H4:Hid (∀W,a0w a0g 182 #[S tx] W λe w'=>∃v,e= .returned v/\w'.ownsRow W.heap.size 9 1 v (ba tx).length ((ba tx).map λs=>S s)/\a0f W.heap.size W w'):=λW=>uk tx ax.2.2 W;generalize (firstF r [49,48,48]).isSome=is1 at *;have k2:¬(w.heap.size+1=T):=by have:=b5.out.2;omega
     have k3:¬(T=w.heap.size+1):=by have:=b5.out.2;omega
     clear hg g8 g9 ax
     go_wp2_with (first
      |(go_at_call 181;((with_reducible refine a0c H1.out ?_);rintro e L ⟨⟨v,rfl,dd,rfl,b0⟩,E⟩;obtain ⟨da,dc,rfl,_⟩:=id b0;have i8:=a0a (b0.mono (a0i 0) E.size);have d5:=a0a E;clear b0 E))
      |(go_at_call 183;((with_reducible refine a0c (H3.out _ _ (i8.out.up2 (aZ _ _) (a0i _))) ?_);rintro e w4 ⟨rfl,hz⟩;have d6:=a0a ((aZ L _).trans (hz.mono (by simp)));clear hz))
      |(go_at_call 182;((with_reducible refine a0c (H4.out _) ?_);rintro e w5 ⟨v,rfl,g6,aS⟩;obtain ⟨va,vc,rfl⟩:=aK g6;have i6:=a0a g6;have cx:a0f wr.heap.size wr w5:=d5.out.trans ((d6.out.trans (aS.mono d6.out.size)).mono d5.out.size);have hJ:=a0a cx;have a7:=(cx.block _ (ae bB.out.t)).trans bB.out.t;rw [<- gn.out] at a7;have O:=(cx.block _ (ae hk.out)).trans hk.out;have N:=ab a7 2;have P:=(aa a7 0).trans rfl;have Q:=(aa a7 1).trans rfl;have U:=(aa a7 2).trans rfl;have V:=(aa a7 3).trans rfl;have Y:=(aa a7 4).trans rfl;have y0:=ab O 0;have y1:=ab O 1;have y2:=ab O 2;have y3:=ab O 3;have y4:=ab O 4;have u0:=(aa O 0).trans rfl;have u1:=(aa O 1).trans rfl;have u2:=(aa O 2).trans rfl;have u3:=(aa O 3).trans rfl;have u4:=(aa O 4).trans rfl;have j0:=a0a a7;have j1:=a0a O;clear aS cx a7 O g6)))
     refine bodyPost_ret (v:= .agg #[.map (some B),S (aO r), .slice va (ba tx).length vc, .int .i64 (bC r), .int .u8 k.toNat]) (by rw [cI rfl];go_simp) rfl ?_;refine ⟨_,rfl,Al bB.out hJ.out i6.out gb.out b5.out hM.out (by have:=d6.out.size;have:=d5.out.size;have:=bB.out.sz;have:=ae bB.out.t;omega) _ _ _ _ _ _ _ rfl⟩
end
section
open Go.RowKit Go.Maps Go.Shelf
structure bW (w W:a0j) (c1 c2:Array a0n) (n:Int):Prop where
 b:a0f w.heap.size w W
 x:W.heap[w.heap.size]? =some (.cells c1 208 (0,0))
 y:W.heap[w.heap.size+1]? =some (.cells c2 208 (0,0))
 s:W.heap[w.heap.size+2]? =some (.cells #[.int .i64 n] 3 (0,0))
theorem bW.below {w W c:a0j} {c1 c2:Array a0n} {n:Int} (h:bW w W c1 c2 n) (a:a0f W.heap.size W c):bW w c c1 c2 n:=
 ⟨h.b.trans (a.mono h.b.size),(a.block _ (ae h.x)).trans h.x,(a.block _ (ae h.y)).trans h.y,(a.block _ (ae h.s)).trans h.s⟩
theorem bW.add {w W:a0j} {c1 c2:Array a0n} {n:Int} (h:bW w W c1 c2 n) (d: -1000<=n/\n<=1000) (p q:Bool) (x y:Int) (g: -1000<=x/\x<=1000) (i: -1000<=y/\y<=1000):
 a0w a0g 188 #[.bool p, .bool q, .int .i64 x, .int .i64 y, .pointer (some ⟨w.heap.size+2,0,none⟩)] W λe w'=>e= .returned (.tuple #[])/\bW w w' c1 c2 (if p then if q then n+x else n+y else n):=
 (pW (w.heap.size+2) n x y p q W h.s d g i).mono λe w' ⟨c,f,a⟩=>⟨c,⟨h.b.trans (a.below (by omega)),(a.block _ (by omega)).trans h.x,(a.block _ (by omega)).trans h.y,f⟩⟩
theorem yn {w:a0j} {b:Nat} {l:List Bs} (h:ak rR w b (l.map λs=>(s, .bool true))) (k:Bs):(lookL (l.map λs=>(s,a0v true)) k).getD (.bool false)= .bool (decide (k∈l)):=by
 by_cases hm:k∈l
 · rw [decide_eq_true hm,(bu h.nodup).2 (List.mem_map.2 ⟨k,hm,rfl⟩)];rfl
 · rw [decide_eq_false hm,gH.2 (λv d=>by
    obtain ⟨s,c,a⟩:=List.mem_map.1 d;injection a with h1 _
    exact hm (h1 ▸ c))]
   rfl
theorem wn {w:a0j} {b:Nat} {l:List Bs} (h:ak rR w b (l.map λs=>(s, .bool true))) (k:Bs) (a:k.length<=maxLen):(Instr.lookup 206 (.map (some b)) (S k) false).run a0g w= .ok (.bool (decide (k∈l))) w:=by
 have:=ak.look h Tryz.underlying206 (z:= .bool false) (by kernel_rfl) k a;rw [yn h] at this;exact this
theorem mX {w:a0j} {lo n c:Nat} {a:Option Addr} {l:List Bs} (h:w.ownsRow lo 9 1 (.slice a n c) n (l.map λs=>S s)) (e:0<n):∃g,a=some ⟨g,0,none⟩/\g<w.heap.size/\w.cell? ⟨g,0,none⟩=some (S (l.headD [])):=by
 obtain ⟨g,k,b,_⟩:=World.ownsRow.form h e;injection b with h1 h2 h3
 subst h1 h3;refine ⟨g,rfl,(h.lt g (by simp [Value.ownBlock])).2,?_⟩;rw [h.cellAt 0 (by omega)];have d:l.length=n:=by have:=h.1;simpa using this
 cases l with
 |nil=>simp at d;omega
 |cons s l=>rfl
theorem kR (s:Bs): -1<=aM s/\aM s<=9999:=by
 unfold aM;split
 · rename_i h;have:=qK s (λc a=>List.all_eq_true.1 h.2 c a) 4 (by omega);rw [a0m (by omega)] at this;unfold foldN at this;omega
 · omega
theorem mw:∀s:Bs, -1<=bi s/\bi s<=9999
 |[]=>by unfold bi;omega
 |c::l=>by
  unfold bi
  split
  · exact kR _
  · exact mw l
theorem tm (a:List af): -1<=bC a/\bC a<=9999:=by
 unfold bC;split
 · unfold ix;split
   · split
     · exact kR _
     · omega
   · omega
 · exact mw _
theorem sf (e5 e8:Nat) (u v:a0n) (r s:aB) (w:a0j) (hu:bU e5 w u r) (hv:bU e8 w v s) (hr:(br r.fields).length<=1000000000) (k:(br s.fields).length<=1000000000):
 a0w a0g 131 #[u,v] w λe w'=>e= .returned (.int .i64 (pointsR r s))/\a0f w.heap.size w w':=by
 obtain ⟨N,n1,k1,a1,rfl,_,⟨Z,m1,e1,_⟩,o1⟩:=hu;obtain ⟨b2,n2,k2,a2,rfl,_,⟨l2,F,e2,_⟩,o2⟩:=hv;have dy:n1=(br r.fields).length:=by have:=o1.1;simp at this;rcases o1.2 with ⟨h,h0⟩|⟨g,c,cu,h,_⟩<;>injection h<;>omega
 have dz:n2=(br s.fields).length:=by have:=o2.1;simp at this;rcases o2.2 with ⟨h,h0⟩|⟨g,c,cu,h,_⟩<;>injection h<;>omega
 subst dy dz;have HP:Hid (pointsR r s=bookPts (booksR r.fields) (booksR s.fields)+titlePts (aO r.fields) (aO s.fields)+authorPts (br r.fields) (br s.fields)+yearPts (bC r.fields) (bC s.fields)+(if r.kind=s.kind then 0 else -40)):=rfl;generalize booksR r.fields=B1 at *;generalize booksR s.fields=B2 at *;generalize aO r.fields=o at *;generalize aO s.fields=p at *;generalize br r.fields=A1 at *;generalize br s.fields=A2 at *;have f8:=tm r.fields;have f9:=tm s.fields;generalize bC r.fields=Y1 at *;generalize bC s.fields=Y2 at *;generalize r.kind=K1 at *;generalize s.kind=K2 at *;obtain ⟨c1,P⟩:∃c1:Array a0n, #[.map (some N),S o, .slice a1 A1.length k1, .int .i64 Y1, .int .u8 K1.toNat]=c1:=⟨_,rfl⟩;obtain ⟨c2,Q⟩:∃c2:Array a0n, #[.map (some b2),S p, .slice a2 A2.length k2, .int .i64 Y2, .int .u8 K2.toNat]=c2:=⟨_,rfl⟩;have e9:=a0a P;have eg:=a0a Q;have bs:=a0a m1;have bt:=a0a F;have aC:=a0a o1;have aS:=a0a o2;have ac:=a0a e1;have ad:=a0a e2
 have C:Hid (∀W n,bW w W c1 c2 n->(W.cell? ⟨w.heap.size,0,none⟩=some (.map (some N))/\W.cell? ⟨w.heap.size,1,none⟩=some (S o)/\W.cell? ⟨w.heap.size,2,none⟩=some (.slice a1 A1.length k1)/\W.cell? ⟨w.heap.size,3,none⟩=some (.int .i64 Y1)/\W.cell? ⟨w.heap.size,4,none⟩=some (.int .u8 K1.toNat))/\
  (W.cell? ⟨w.heap.size+1,0,none⟩=some (.map (some b2))/\W.cell? ⟨w.heap.size+1,1,none⟩=some (S p)/\W.cell? ⟨w.heap.size+1,2,none⟩=some (.slice a2 A2.length k2)/\W.cell? ⟨w.heap.size+1,3,none⟩=some (.int .i64 Y2)/\W.cell? ⟨w.heap.size+1,4,none⟩=some (.int .u8 K2.toNat))):=λW n h=>by
  have j:=h.x
  have i:=h.y
  rw [<- P] at j
  rw [<- Q] at i
  exact ⟨⟨(aa j 0).trans rfl,(aa j 1).trans rfl,(aa j 2).trans rfl,(aa j 3).trans rfl,(aa j 4).trans rfl⟩,⟨(aa i 0).trans rfl,(aa i 1).trans rfl,(aa i 2).trans rfl,(aa i 3).trans rfl,(aa i 4).trans rfl⟩⟩
 have bk:Hid (∀W,a0f w.heap.size w W->∀L,(Builtin.len_ #[206] L #[.map (some N)]).run a0g W= .ok (.int .i64 Z.length) W/\(Builtin.len_ #[206] L #[.map (some b2)]).run a0g W= .ok (.int .i64 l2.length) W):=λW X L=>by have j:=cj.len (mv:=some N) (m1.block (X.block _ m1.lt)) Tryz.underlying206 L;have i:=cj.len (mv:=some b2) (F.block (X.block _ F.lt)) Tryz.underlying206 L;rw [List.length_map] at j i;exact ⟨j,i⟩
 clear m1 F o1 o2 e1 e2;have a7:bW w (((w.alloc (.cells c1 208)).alloc (.cells c2 208)).alloc (.cells #[.int .i64 0] 3)) c1 c2 0:=by
  have z1:(w.alloc (.cells c1 208)).heap.size=w.heap.size+1:=by simp
  have z2:((w.alloc (.cells c1 208)).alloc (.cells c2 208)).heap.size=w.heap.size+2:=by simp
  refine ⟨(((a0k _ w).alloc (a0i _) _).alloc (by simp) _).alloc (by simp;omega) _,?_,?_,?_⟩
  · rw [a0e _ _ _ (by simp;omega),a0e _ _ _ (by simp)];exact a0b w _
  · rw [a0e _ _ _ (by simp), <- z1];exact a0b _ _
  · rw [<- z2];exact a0b _ _
 rw [<- P, <- Q] at a7;generalize hW3:((w.alloc (.cells #[.map (some N),S o, .slice a1 A1.length k1, .int .i64 Y1, .int .u8 K1.toNat] 208)).alloc (.cells #[.map (some b2),S p, .slice a2 A2.length k2, .int .i64 Y2, .int .u8 K2.toNat] 208)).alloc (.cells #[.int .i64 0] 3)=w3 at a7;rw [P,Q] at a7;have d5:=a0a hW3;have H3:=a0a a7;have cm:w3.heap.size=w.heap.size+3:=by rw [<- hW3];simp
 have ao:=a0a cm;clear hW3 a7 P Q cm;go_enter Tryz.func131,Tryz.ntmps131;go_upto_region 4 with fail
 rw [d5.out];obtain ⟨⟨x0,_,_,_,_⟩,_⟩:=C w3 0 H3.out;have dx:=a0a (bs.block (H3.b.block _ bs.lt));go_wp2_with (refine my _ rfl _ _ rfl 4 Tryz.underlying206 N _ rfl dx.out ?_;intro w4 ch c6 e4)
 have c4:=a0a ch;have H4:=a0a (H3.below c6);clear ch c6 e4 x0;obtain ⟨M,b0⟩:∃M:List (Bs×a0n),Z.map (λs=>(s, .bool true))=M:=⟨_,rfl⟩;rw [b0] at c4;have ay:=a0a b0;clear b0;go_simp;go_loopg [7] (M.length+1) (λg t wr=>∃(b:Bool) (left:List (Bs×a0n)),left.length<g/\t= .bool b/\Hid (cf rR wr N w3.heap.size M left)/\Hid (bW w wr c1 c2 0)/\Hid (b=true↔∃x∈M,x∉left/\x.1∈l2))
 case atStart=>exact ⟨false,M,by omega,rfl,c4,H4,by
  unfold Hid;constructor
  · intro h;cases h
  · rintro ⟨x,R,B,_⟩;exact absurd R B⟩
 case round=>
  obtain ⟨b,left,f2,rfl,HR,U,HB⟩:=hrel;go_wp2_with (refine ph _ rfl _ rfl N w3.heap.size M left rfl HR.out ?_ ?_)
  · intro dk;subst dk;have b8:Hid (b=true↔B1.any B2.contains=true):=by
     unfold Hid;rw [HB.out,List.any_eq_true];constructor
     · rintro ⟨x,R,_,i⟩;rw [<- ay.out] at R;obtain ⟨s,k,rfl⟩:=List.mem_map.1 R;exact ⟨s,(ac.out s).1 k,by simpa using (ad.out s).1 i⟩
     · rintro ⟨s,k,i⟩;exact ⟨(s, .bool true),by rw [<- ay.out];exact List.mem_map.2 ⟨s,(ac.out s).2 k,rfl⟩,by simp,(ad.out s).2 (by simpa using i)⟩
    go_upto_region 8 with fail
    go_cut [] (λA=>Hid (bW w A c1 c2 (bookPts B1 B2)))
    case first=>
     obtain ⟨⟨x0,_,_,_,_⟩,y0,_,_,_,_⟩:=C wr 0 U.out;have eQ:=λL=>(bk wr U.b L).1;have f0:=λL=>(bk wr U.b L).2;have z1:Z.length=0↔B1=[]:=by
      rw [List.length_eq_zero_iff];constructor
      · rintro rfl;exact List.eq_nil_iff_forall_not_mem.2 λs k=>by have:=(ac.out s).2 k;simp at this
      · rintro rfl;exact List.eq_nil_iff_forall_not_mem.2 λs k=>by have:=(ac.out s).1 k;simp at this
     have z2:l2.length=0↔B2=[]:=by
      rw [List.length_eq_zero_iff];constructor
      · rintro rfl;exact List.eq_nil_iff_forall_not_mem.2 λs k=>by have:=(ad.out s).2 k;simp at this
      · rintro rfl;exact List.eq_nil_iff_forall_not_mem.2 λs k=>by have:=(ad.out s).1 k;simp at this
     have ax:Hid (bookPts B1 B2=if Z.length=0∨l2.length=0 then 0 else if b=true then 50 else -30):=by
      unfold Hid bookPts;by_cases hz:B1=[]∨B2=[]
      · rw [if_pos hz,if_pos (hz.imp z1.2 z2.2)]
      · have e3:¬(Z.length=0∨l2.length=0):=λh=>hz (h.imp z1.1 z2.1);rw [if_neg hz,if_neg e3];by_cases X:b=true
        · rw [if_pos X,if_pos (b8.out.1 X)]
        · rw [if_neg X,if_neg (λh=>X (b8.out.2 h))]
     clear z1 z2;generalize Z.length=q1 at *;generalize l2.length=q2 at *;rcases a0l q1 with rfl|G
     · go_wp2_with (go_at_call 188;refine a0c (bW.add U.out ⟨by omega,by omega⟩ _ _ _ _ ⟨by decide,by decide⟩ ⟨by decide,by decide⟩) ?_;rintro e T ⟨rfl,a⟩;have d:=a0a a;clear a)
       go_meet;have:=d.out;rw [show bookPts B1 B2=0 by rw [ax.out];simp];show bW _ _ _ _ _;simpa using this
     · rcases a0l q2 with rfl|H
       · go_wp2_with (go_at_call 188;refine a0c (bW.add U.out ⟨by omega,by omega⟩ _ _ _ _ ⟨by decide,by decide⟩ ⟨by decide,by decide⟩) ?_;rintro e T ⟨rfl,a⟩;have d:=a0a a;clear a)
         go_meet;have:=d.out;rw [show bookPts B1 B2=0 by rw [ax.out];simp];show bW _ _ _ _ _;simpa using this
       · have D:(0:Int)<(q1:Int):=by omega
         have O:(0:Int)<(q2:Int):=by omega
         go_wp2_with (go_at_call 188;refine a0c (bW.add U.out ⟨by omega,by omega⟩ _ _ _ _ ⟨by decide,by decide⟩ ⟨by decide,by decide⟩) ?_;rintro e T ⟨rfl,a⟩;have d:=a0a a;clear a)
         go_meet;have:=d.out;rw [show bookPts B1 B2=if b=true then 50 else -30 by rw [ax.out,if_neg (by omega)]];show bW _ _ _ _ _;simpa using this
    case rest=>
     have al:=hcut;clear hcut;go_upto_region 9 with fail
     go_cut [] (λA=>Hid (bW w A c1 c2 (bookPts B1 B2+titlePts o p)))
     case first=>
      obtain ⟨⟨_,x1,_,_,_⟩,_,y1,_,_,_⟩:=C wc _ al.out;have ex: -30<=bookPts B1 B2/\bookPts B1 B2<=50:=by unfold bookPts;split;omega;split<;>omega
      have aT:Hid (titlePts o p=if o=[]∨p=[] then 0 else if o=p then 30 else -20):=rfl;generalize bookPts B1 B2=n at *;rcases o with _|⟨t1,o⟩
      · go_wp2_with (go_at_call 188;refine a0c (bW.add al.out ⟨by omega,by omega⟩ _ _ _ _ ⟨by decide,by decide⟩ ⟨by decide,by decide⟩) ?_;rintro e T ⟨rfl,a⟩;have d:=a0a a;clear a)
        go_meet;have:=d.out;rw [aT.out];show bW _ _ _ _ _;simpa using this
      · rcases p with _|⟨t2,p⟩
        · go_wp2_with (go_at_call 188;refine a0c (bW.add al.out ⟨by omega,by omega⟩ _ _ _ _ ⟨by decide,by decide⟩ ⟨by decide,by decide⟩) ?_;rintro e T ⟨rfl,a⟩;have d:=a0a a;clear a)
          go_meet;have:=d.out;rw [aT.out];show bW _ _ _ _ _;simpa using this
        · go_wp2_with (go_at_call 188;refine a0c (bW.add al.out ⟨by omega,by omega⟩ _ _ _ _ ⟨by decide,by decide⟩ ⟨by decide,by decide⟩) ?_;rintro e T ⟨rfl,a⟩;have d:=a0a a;clear a)
          go_meet;have:=d.out;rw [aT.out];show bW _ _ _ _ _;by_cases hT:(t1::o:Bs)=t2::p
          · rw [if_neg (by simp),if_pos hT];injection hT with D O
            subst D O;simpa using this
          · rw [if_neg (by simp),if_neg hT];have da:¬(t1=t2/\o=p):=λh=>hT (by rw [h.1,h.2]);simpa [da] using this
     case rest=>
      have a3:=hcut;clear hcut;obtain ⟨n,B⟩:∃n,bookPts B1 B2+titlePts o p=n:=⟨_,rfl⟩;have f5: -50<=n/\n<=80:=by
       rw [<- B];have j: -30<=bookPts B1 B2/\bookPts B1 B2<=50:=by unfold bookPts;split;omega;split<;>omega
       have i: -20<=titlePts o p/\titlePts o p<=30:=by unfold titlePts;split;omega;split<;>omega
       omega
      rw [B] at a3;have HN:=a0a B;clear B;go_upto_region 10 with fail
      go_cut [61] (λt A=>t= .bool (decide (0<A1.length)&&decide (0<A2.length))/\A=wc)
      case first=>
       obtain ⟨⟨_,_,x2,_,_⟩,_,_,y2,_,_⟩:=C wc _ a3.out;generalize A1.length=q1 at *;generalize A2.length=q2 at *;rcases a0l q1 with rfl|G
       · go_wp2_with fail
         go_meet;exact ⟨rfl,rfl⟩
       · rcases a0l q2 with rfl|H
         · have D:(0:Int)<(q1:Int):=by omega
           go_wp2_with fail
           go_meet;exact ⟨by simp,rfl⟩
         · have D:(0:Int)<(q1:Int):=by omega
           have O:(0:Int)<(q2:Int):=by omega
           go_wp2_with fail
           go_meet;exact ⟨by simp [G,H],rfl⟩
      case rest=>
       obtain ⟨rfl,rfl⟩:=hcut;obtain ⟨V,Y⟩:∃V,(decide (0<A1.length)&&decide (0<A2.length))=V:=⟨_,rfl⟩;rw [Y];have b9:=a0a Y;clear Y;go_upto_if 61 with fail
       go_cut [] (λA=>Hid (bW w A c1 c2 (n+authorPts A1 A2)))
       case first=>
        cases V
        · go_wp2_with fail
          go_meet;have:authorPts A1 A2=0:=by
           unfold authorPts;rw [if_pos];have h:=b9.out;rw [a0t,decide_eq_false_iff_not,decide_eq_false_iff_not] at h;rcases h with h|h
           · exact .inl (a0s (by omega))
           · exact .inr (a0s (by omega))
          rw [this];show bW _ _ _ _ _;simpa using a3.out
        · have h:=b9.out;rw [Bool.and_eq_true,decide_eq_true_eq,decide_eq_true_eq] at h;obtain ⟨G,H⟩:=h;obtain ⟨D,rfl,c7,P⟩:=mX aC.out G;obtain ⟨O,rfl,c9,Q⟩:=mX aS.out H;have cp:Hid (authorPts A1 A2=if A1=A2 then 15 else if A1.headD []=A2.headD [] then 8 else -15):=by unfold Hid authorPts;rw [if_neg];rintro (rfl|rfl)<;>simp at G H
          have HQ:Hid (∀W n,bW w W c1 c2 n->W.cell? ⟨w.heap.size,2,none⟩=some (.slice (some ⟨D,0,none⟩) A1.length k1)/\W.cell? ⟨w.heap.size+1,2,none⟩=some (.slice (some ⟨O,0,none⟩) A2.length k2)/\W.cell? ⟨D,0,none⟩=some (S (A1.headD []))/\W.cell? ⟨O,0,none⟩=some (S (A2.headD []))):=λW n h=>by obtain ⟨⟨_,_,x2,_,_⟩,_,_,y2,_,_⟩:=C W n h;exact ⟨x2,y2,((aE h.b).1 _ _ c7).trans P,((aE h.b).1 _ _ c9).trans Q⟩
          have cs:Hid (∀W n,bW w W c1 c2 n->a0w a0g 189 #[.slice (some ⟨D,0,none⟩) A1.length k1, .slice (some ⟨O,0,none⟩) A2.length k2] W λe w'=>e= .returned (.bool (decide (A1=A2)))/\∃q,w'=W.drewN q):=λW n h=>
           vo (ah aC.out (λg hg=>h.b.block g (aC.lt g hg).2)) (ah aS.out (λg hg=>h.b.block g (aS.lt g hg).2)) hr k
          have cv:Hid (A1=A2->A1.headD []=A2.headD []):=λh=>by rw [h]
          clear P Q c7 c9;generalize A1.headD []=j at *;generalize A2.headD []=i at *;have ej:Hid (A1.length<=1000000000):=hr;have em:Hid (A2.length<=1000000000):=k;generalize A1.length=q1 at *;generalize A2.length=q2 at *;have i1:(0:Int)<(q1:Int):=by omega
          have i2:(0:Int)<(q2:Int):=by omega
          have c5:∃m,bW w wc.drew c1 c2 m:=⟨n,a3.below (a0k _ wc).drew⟩;have bA:Hid (bW w wc.drew c1 c2 n):=a3.below (a0k _ wc).drew;generalize hdd:decide (A1=A2)=dd at *;have bc:=a0a hdd;clear hdd;go_wp2_with fail
          refine wT (λW=>∃m,bW w W c1 c2 m) 999 ?_;have J:=tkL [0,1,2,3,4,5,6,7,8,9,10,11,12,13];repeat (refine tkIS J ?_ rfl c5 ?_ ?_;rotate_left;intro w' h;obtain ⟨m,h⟩:=h;obtain ⟨c0,d0,c3,d3⟩:=HQ w' m h;go_simp;rfl;(try go_simp);replace J:=tkO J)
          clear J;refine dO 14 rfl λK l=>?_;go_simp;go_at_call 189;refine (cs _ _ bA.out).mono ?_;rintro e T ⟨rfl,qq,cl⟩;have bB:Hid (bW w T c1 c2 n):=by rw [cl];exact bA.out.below ⟨rfl,rfl,rfl,a0i _,λ_ _=>rfl⟩
          clear cl;refine l _ _ (λ_=>⟨n,bB.out⟩) ?_;clear l K;refine dO 15 rfl λK l=>?_;go_simp;go_at_call 188;refine a0c (bW.add bB.out ⟨by omega,by omega⟩ _ _ 15 8 ⟨by decide,by decide⟩ ⟨by decide,by decide⟩) ?_;rintro e w6 ⟨rfl,z⟩;obtain ⟨n6,b6,z⟩:∃n6,(n6=_)/\bW w w6 c1 c2 n6:=⟨_,rfl,z⟩;have er: -50<=n6/\n6<=95:=by rw [b6];split;split;omega;omega;omega
          have a0:=a0a z;have cy:=a0a b6;clear b6;refine l _ _ (λ_=>⟨_,z⟩) ?_;clear l K;refine dN ?_;have d8:∃m,bW w w6.drew c1 c2 m:=⟨n6,a0.below (a0k _ w6).drew⟩;have cP:Hid (bW w w6.drew c1 c2 n6):=a0.below (a0k _ w6).drew;clear z c5;go_wp2_with fail
          refine wT (λW=>∃m,bW w W c1 c2 m) 999 ?_;have J:=tkL [0,1,2,3,4,5,6,7,8,9];repeat (refine tkIS J ?_ rfl d8 ?_ ?_;rotate_left;intro w' h;obtain ⟨m,h⟩:=h;obtain ⟨c0,d0,c3,d3⟩:=HQ w' m h;go_simp;rfl;(try go_simp);replace J:=tkO J)
          clear J;refine dO 10 rfl λK l=>?_;go_simp;go_at_call 188;refine a0c (bW.add cP.out ⟨by omega,by omega⟩ _ _ (-15) 0 ⟨by decide,by decide⟩ ⟨by decide,by decide⟩) ?_;rintro e w7 ⟨rfl,a6⟩;obtain ⟨n7,cd,a6⟩:∃n7,(n7=_)/\bW w w7 c1 c2 n7:=⟨_,rfl,a6⟩;have cQ:=a0a a6;have cz:=a0a cd;clear cd;refine l _ _ (λ_=>⟨_,a6⟩) ?_;clear l K;refine dN ?_;clear a6;go_wp2_with fail
          go_meet;show bW _ _ _ _ _;have e6:=cy.out;have e7:=cz.out;have e:n+authorPts A1 A2=n7:=by
           rw [cp.out];by_cases hA:A1=A2
           · have hh:=cv hA;subst hh;rw [<- bc.out,decide_eq_true hA] at e6;rw [if_pos hA];simp at e6 e7;omega
           · rw [<- bc.out,decide_eq_false hA] at e6;rw [if_neg hA];by_cases hh:j=i
             · subst hh;simp at e6 e7 ⊢;omega
             · rw [if_neg hh];simp [hh] at e6 e7;omega
          rw [e];exact cQ.out
       case rest=>
        have a4:=hcut;clear hcut;obtain ⟨m,E⟩:∃m,n+authorPts A1 A2=m:=⟨_,rfl⟩;have f3: -65<=m/\m<=95:=by
         have: -15<=authorPts A1 A2/\authorPts A1 A2<=15:=by unfold authorPts;split;omega;split;omega;split<;>omega
         omega
        rw [E] at a4;have bw:=a0a E;clear E;go_upto_region 13 with fail
        go_cut [112] (λt A=>t= .bool (decide (0<=Y1)&&decide (0<=Y2)&&decide (Y1 - Y2≠1)&&decide (Y2 - Y1≠1))/\A=wc)
        case first=>
         obtain ⟨⟨_,_,_,x3,_⟩,_,_,_,y3,_⟩:=C wc _ a4.out;have w1:IntKind.i64.wrap (Y1 - Y2)=Y1 - Y2:=IntWalk.i64_in _ (by omega);have w2:IntKind.i64.wrap (Y2 - Y1)=Y2 - Y1:=IntWalk.i64_in _ (by omega);obtain ⟨d1,b3⟩:∃d1,Y1 - Y2=d1:=⟨_,rfl⟩;obtain ⟨d2,b4⟩:∃d2,Y2 - Y1=d2:=⟨_,rfl⟩;have W1:Hid (IntKind.i64.wrap (Y1 - Y2)=d1):=by rw [w1];exact b3
         have W2:Hid (IntKind.i64.wrap (Y2 - Y1)=d2):=by rw [w2];exact b4
         have a8:=a0a b3;have a9:=a0a b4;clear w1 w2 b3 b4;have w1:=W1.out;have w2:=W2.out;rcases Int.lt_or_le Y1 0 with G|G
         · have D:¬(0<=Y1):=by omega
           go_wp2_with fail
           go_meet;refine ⟨?_,rfl⟩;rw [a8.out,a9.out];simp;intro h;omega
         · rcases Int.lt_or_le Y2 0 with H|H
           · have O:¬(0<=Y2):=by omega
             go_wp2_with fail
             go_meet;refine ⟨?_,rfl⟩;rw [a8.out,a9.out];simp;intro _ h;omega
           · by_cases e1:d1=1
             · subst e1;go_wp2_with fail
               go_meet;refine ⟨?_,rfl⟩;rw [a8.out,a9.out];simp [G,H]
             · have f1:(d1 !=1)=true:=by simp [e1]
               go_wp2_with fail
               go_meet;refine ⟨?_,rfl⟩;rw [a8.out,a9.out];by_cases e2:d2=1<;>simp [G,H,e1,e2,bne]
        case rest=>
         obtain ⟨rfl,rfl⟩:=hcut;obtain ⟨V,Y⟩:∃V,(decide (0<=Y1)&&decide (0<=Y2)&&decide (Y1 - Y2≠1)&&decide (Y2 - Y1≠1))=V:=⟨_,rfl⟩;rw [Y];have b7:=a0a Y;clear Y;go_upto_if 112 with fail
         go_cut [] (λA=>Hid (bW w A c1 c2 (m+yearPts Y1 Y2)))
         case first=>
          cases V
          · go_wp2_with fail
            go_meet;have h:=b7.out;have:yearPts Y1 Y2=0:=by
             unfold yearPts;simp only [a0t,decide_eq_false_iff_not] at h;split
             · rfl
             · rw [if_neg (by omega),if_pos (by omega)]
            rw [this];show bW _ _ _ _ _;simpa using a4.out
          · obtain ⟨⟨_,_,_,x3,_⟩,_,_,_,y3,_⟩:=C wc _ a4.out;go_wp2_with (go_at_call 188;refine a0c (bW.add a4.out ⟨by omega,by omega⟩ _ _ _ _ ⟨by decide,by decide⟩ ⟨by decide,by decide⟩) ?_;rintro e T ⟨rfl,a⟩;have d:=a0a a;clear a)
            go_meet;have h:=b7.out;simp only [Bool.and_eq_true,decide_eq_true_eq] at h;have:=d.out;show bW _ _ _ _ _;unfold yearPts;rw [if_neg (by omega)];by_cases he:Y1=Y2
            · rw [if_pos he];simpa [he] using this
            · rw [if_neg he,if_neg (by omega)];simpa [he] using this
         case rest=>
          have d:=hcut;clear hcut;obtain ⟨F,b5⟩:∃F,m+yearPts Y1 Y2=F:=⟨_,rfl⟩;have f4: -75<=F/\F<=105:=by
           have: -10<=yearPts Y1 Y2/\yearPts Y1 Y2<=10:=by unfold yearPts;split;omega;split;omega;split<;>omega
           omega
          rw [b5] at d;have bv:=a0a b5;clear b5;obtain ⟨⟨_,_,_,_,x4⟩,_,_,_,_,y4⟩:=C wc _ d.out;by_cases l:K1=K2
          · have hk:((K1.toNat:Int)==(K2.toNat:Int))=true:=by rw [l];simp
            have HK:=a0a l;clear l;go_wp2_with (go_at_call 188;refine a0c (bW.add d.out ⟨by omega,by omega⟩ _ _ _ _ ⟨by decide,by decide⟩ ⟨by decide,by decide⟩) ?_;rintro e w6 ⟨rfl,z⟩;have a0:=a0a z;have s6:=(aa z.s 0).trans rfl;clear z)
            go_ret;refine ⟨?_,a0.b⟩;rw [HP.out,HN.out,bw.out,bv.out,if_pos HK.out];simp
          · have hk:((K1.toNat:Int)==(K2.toNat:Int))=false:=by have:K1.toNat≠K2.toNat:=λh=>l (UInt8.toNat_inj.1 h);simp;omega
            have HK:=a0a l;clear l;go_wp2_with (go_at_call 188;refine a0c (bW.add d.out ⟨by omega,by omega⟩ _ _ _ _ ⟨by decide,by decide⟩ ⟨by decide,by decide⟩) ?_;rintro e w6 ⟨rfl,z⟩;have a0:=a0a z;have s6:=(aa z.s 0).trans rfl;clear z)
            go_ret;refine ⟨?_,a0.b⟩;rw [HP.out,HN.out,bw.out,bv.out,if_neg HK.out];simp
  · intro I pv w2 hp e0 cg cc a5 dc;have eq:w3.heap.size<wr.heap.size:=HR.lt;have d4:Hid (left.Sublist M):=by obtain ⟨es,f,d6,j,i,h3,h4,_⟩:=HR.out;exact h4
    have f6:I∈Z:=by
     obtain ⟨es,f,d6,j,i,h3,h4,_⟩:=HR.out;have:=h4.subset hp;rw [<- ay.out] at this;obtain ⟨s,k,he⟩:=List.mem_map.1 this;injection he with j _
     rw [<- j];exact k
    have au:bW w w2 c1 c2 0:=by have h:=U.out;exact ⟨h.b.trans (a5.below (by have:=ao.out;omega)),(a5.block _ (by have:=ao.out;omega)).trans h.x,(a5.block _ (by have:=ao.out;omega)).trans h.y,(a5.block _ (by have:=ao.out;omega)).trans h.s⟩
    have ds:=wn (bt.block (au.b.block _ bt.lt)) I e0;obtain ⟨_,y0,_,_,_,_⟩:=C w2 0 au;have bO:=a0a au;have bY:=a0a cg;have cb:rR.kv I=S I:=rfl;rw [cb] at dc;obtain ⟨m,E⟩:∃m,decide (I∈l2)=m:=⟨_,rfl⟩;rw [E] at ds;have cx:=a0a E;have cq:=a0a hp;clear cg au cb a5 E hp;cases b
    · go_wp2_with fail
      go_roundg (left.length)
      case rel=>
       refine ⟨m,cB left I,cc,rfl,bY,bO,?_⟩;unfold Hid;have h0:=HB.out;rw [<- cx.out,decide_eq_true_eq];constructor
       · intro E;exact ⟨(I,pv),d4.out.subset cq.out,by simp [cB],E⟩
       · rintro ⟨x,R,B,av⟩;by_cases hxl:x∈left
         · have:x.1=I:=by apply Classical.byContradiction;intro dB;exact B (List.mem_filter.2 ⟨hxl,by simpa using dB⟩)
           rw [<- this];exact av
         · exact absurd (h0.2 ⟨x,R,hxl,av⟩) (by decide)
      case measure=>omega
    · go_wp2_with fail
      go_roundg (left.length)
      case rel=> refine ⟨true,cB left I,cc,rfl,bY,bO,?_⟩;unfold Hid;obtain ⟨x,R,B,av⟩:=HB.out.1 (by simp);exact ⟨λ_=>⟨x,R,λh=>B (List.mem_filter.1 h).1,av⟩,λ_=>rfl⟩
      case measure=>omega
end
end Go.Proofs.YtjcimanddakkaaaGreatDoor
