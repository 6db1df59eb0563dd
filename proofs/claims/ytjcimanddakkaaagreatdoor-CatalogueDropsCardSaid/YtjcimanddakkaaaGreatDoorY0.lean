/- Lemmas. -/
import Derived.WalkSpells
import Derived.WalkLawsBesides
import Derived.Lib.Hide
import Derived.Lib.MapLaws
import Derived.Maps.Ext
import Derived.WideKeyEntry
import Derived.OrdersHeld
set_option maxRecDepth 100000
set_option maxHeartbeats 8000000
namespace Go.Proofs.YtjcimanddakkaaaGreatDoor
open _root_.Option renaming some→X,none→Y
open Go.Obj renaming cells→av
open Go.Value renaming bool→ax,int→J,slice→aC,map→aT,pointer→b0
open Go.Ending renaming returned→ay
open Go.IntKind renaming i64→U,u8→aS
open Go renaming World→bb,Value→bc,TypeId→b7,ready_mono→cQ,Program→dz,Operand→fr
open Go.Region renaming ready→bk,wanted→bs,noSelect→bB,free→b6,binds→cu,Mode→cz
open _root_.Array renaming getElem?_eq_none→bt,setIfInBounds_comm→cp,replicate→dk
open _root_.Option.some renaming injEq→bv
open _root_.List renaming mem_cons→bw,mem_cons_self→bA,range→bO,takeWhile_cons→b1,take_succ_eq_append_getElem→b3,pairwise_map→b4,length_append→b5,map_cons→b8,find?_eq_none→b9,length_filter_le→cc,mem_cons_of_mem→ce,mem_filter→cg,getD_eq_getElem?_getD→ch,any_eq_true→cs,length_map→cv,find?_cons→cx,flatMap_cons→c4,filter_congr→c5,length_cons→c7,getElem_mem→c9,filter_cons→da,cons_append→dc,perm_ext_iff_of_nodup→ej,getElem?_eq_getElem→eQ,getElem_cons_zero→e5,getElem_cons_succ→e6,take_succ_cons→fc,flatMap_append→fl,filter_sublist→fn,mem_singleton→fs
open _root_.UInt8 renaming ofNat→bY
open _root_.Bool renaming and_eq_true→b2,not_eq_true'→cb,or_eq_true→dx,eq_iff_iff→dy
open Go.World renaming cell?_of_block→cd
open Go.DataW.held renaming injEq→cl
open _root_.Prod.mk renaming injEq→cm
open _root_.Nat renaming add_assoc→cq,le_trans→cy,lt_or_ge→c6,le_refl→eg
open Go.Utf8 renaming decode→cP
open Go.Calls renaming mono→c3
open Go.Ending renaming returned→dd
open Go.Result renaming andThen→dr
open Go.Lib renaming decodeL→er
open Go.Value renaming bool→ex
open _root_.Prod renaming ext→e0
open Go.Maps renaming has_true_of_atKey→e4
open Go.IntKind renaming i64→e7
open Go.WideAt renaming sameKey_self→e8,sameKey_eq→e9
open Go.RowKit.Below renaming heap_setCell→fp
section
open Go.RowKit
theorem Qe {α:Sort _} (e:α):∃x,e=x:=⟨e,rfl⟩
theorem Qf {α:Type _} {a:Option α} {x y:α} (h:a=X x) (e:x=y:=by kernel_rfl):a=X y:=e ▸ h
theorem _root_.Go.RowKit.Hid.o {p:Prop} (h:Go.RowKit.Hid p):p:=h
abbrev Bw (w w':bb):Prop:=Go.RowKit.Below w.heap.size w w'
abbrev Bk (w:bb) (b:Nat) (c:Array bc) (t:b7):Prop:=w.heap[b]? =X (av c t (0,0))
abbrev Cl (w:bb) (b i:Nat) (v:bc):Prop:=w.cell? ⟨b,i,Y⟩=X v
abbrev Bs:=List UInt8
abbrev S (l:Bs):bc:= .string ⟨l.toArray⟩
theorem AR (l:Bs) (k:Nat) (h:k<(⟨l.toArray⟩:ByteArray).size):(⟨l.toArray⟩:ByteArray)[k]'h=l[k]'(by simpa [ByteArray.size] using h):=rfl
attribute [go_sem] AR
theorem zT (l:Bs):(⟨l.toArray⟩:ByteArray).toList=l:=by rw [Lib.toList_data]
theorem tm (l:Bs) (a b:Nat):(⟨l.toArray⟩:ByteArray).extract a b=⟨((l.take b).drop a).toArray⟩:=by
 apply ByteArray.ext;rw [ByteArray.data_extract];simp [List.extract_eq_take_drop,List.drop_take]
theorem vW (a b:Bs):(⟨a.toArray⟩:ByteArray)++(⟨b.toArray⟩:ByteArray)=⟨(a++b).toArray⟩:=by
 apply ByteArray.ext;rw [ByteArray.data_append];simp
attribute [go_sem] zT tm vW
theorem mR (c:UInt8):(c.toNat:Int)<256:=by have:=c.toNat_lt;omega
theorem wt (c:UInt8):0<=(c.toNat:Int):=by omega
def letterB (c:UInt8):Bool:=decide (97<=c.toNat)&&decide (c.toNat<=122)
def digitB (c:UInt8):Bool:=decide (48<=c.toNat)&&decide (c.toNat<=57)
def eM (c:UInt8):Bool:=decide (32<c.toNat)&&decide (c.toNat<127)
def fK (c:UInt8):Bool:=decide (32<=c.toNat)&&decide (c.toNat<127)
def fixedN:Nat->Nat->Bs
 |0,_=>[]
 |n+1,v=>fixedN n (v / 10)++[bY (48+v%10)]
theorem dW (n v:Nat):(fixedN n v).length=n:=by
 induction n generalizing v with
 |zero=>rfl
 |succ n ih=>simp [fixedN,ih]
attribute [go_sem] dW
structure Ch where
 left:Nat
 low:Nat
 high:Nat
def ch0:Ch:=⟨0,0,0⟩
def chNext (x:Ch) (c:UInt8):Option Ch:=
 let n:=c.toNat
 if 0<x.left then (if n<x.low∨x.high<n then Y else X ⟨x.left - 1,128,191⟩)
 else if 32<=n/\n<128 then X ⟨0,128,191⟩
 else if 194<=n/\n<224 then X ⟨1,128,191⟩
 else if 224<=n/\n<240 then X ⟨2,if n=224 then 160 else 128,if n=237 then 159 else 191⟩
 else if 240<=n/\n<245 then X ⟨3,if n=240 then 144 else 128,if n=244 then 143 else 191⟩
 else Y
def chRun:Ch->Bs->Option Ch
 |x,[]=>X x
 |x,c::l=>match chNext x c with
  |some y=>chRun y l
  |none=>Y
def aQ (l:Bs):Bool:=match chRun ch0 l with
 |some x=>decide (x.left=0)
 |none=>false
structure cr where
 code:UInt8
 text:Bs
 deriving DecidableEq
structure af where
 tag:Bs
 ind:Bs
 data:Bs
 subs:List cr
 deriving DecidableEq
structure az where
 kind:UInt8
 level:UInt8
 fields:List af
 deriving DecidableEq
def bq (s:Bs):Bool:=decide (s.length=3)&&s.all digitB&& !decide (s=[48,48,48])
def fi (t:Bs):Bool:=decide (t.take 2=[48,48])
def ii (s:Bs):Bool:=decide (s.length=2)&&s.all fK
def dj (s:cr):Bool:=aQ s.text&&eM s.code
def wrongF (f:af):Int:=
 if !bq f.tag then 13
 else if fi f.tag then (if aQ f.data&&decide (f.ind=[])&&f.subs.isEmpty then 0 else 14)
 else if decide (f.data=[])&&ii f.ind&& !f.subs.isEmpty&&f.subs.all dj then 0 else 14
def aR (s:cr):Bs:=31::s.code::s.text
def fieldBytes (f:af):Bs:=f.data++f.ind++f.subs.flatMap aR++[30]
def aI:List af->Int
 |[]=>0
 |f::l=>if wrongF f=0 then aI l else wrongF f
def bI (l:List af):Bool:=l.any λf=>decide (9999<(fieldBytes f).length)
def sizeOf (l:List af):Nat:=l.foldl (λn f=>n+12+(fieldBytes f).length) 26
def wrongR (r:az):Int:=
 if !letterB r.kind|| !letterB r.level then 12
 else if aI r.fields≠0 then aI r.fields
 else if bI r.fields||decide (999<r.fields.length)||decide (99999<sizeOf r.fields) then 2
 else 0
def dJ:Nat->List af->Bs
 |_,[]=>[]
 |p,f::l=>f.tag++fixedN 4 (fieldBytes f).length++fixedN 5 p++dJ (p+(fieldBytes f).length) l
def cU (l:List af):Bs:=l.flatMap fieldBytes
def jc (r:az) (b base:Nat):Bs:=fixedN 5 b++[110,r.kind,r.level,32,97,50,50]++fixedN 5 base++[32,32,32,52,53,48,48]
def wj (r:az):Bs:=
 jc r (25+(dJ 0 r.fields).length+(cU r.fields).length+1) (25+(dJ 0 r.fields).length)++dJ 0 r.fields++[30]++cU r.fields++[29]
def cw (r:az):Bs×Int:=if wrongR r=0 then (wj r,0) else ([],wrongR r)
def A4 (l:Bs) (a b:Nat):Bs:=(l.take b).drop a
theorem ap {a b:Bool} (h:a=b):dd (ax a)=ay (ax b):=by rw [h]
theorem aH {a b:Int} (h:a=b):dd (J U a)=ay (J U b):=by rw [h]
theorem ut (l:Bs) (k:Nat) (h:k<l.length):l.take (k+1)=l.take k++[l[k]]:=by
 rw [b3 h]
theorem tR {a b:Bs} (h:a=b):dd (S a)=ay (S b):=by rw [h]
theorem eS (b:List af) (k:Nat) (c:k<b.length) (h:aI (b.take k)=0):aI b=if wrongF b[k]=0 then aI (b.drop (k+1)) else wrongF b[k]:=by
 induction b generalizing k with
 |nil=>simp at c
 |cons f l ih=>
  cases k with
  |zero=>simp [aI]
  |succ k=>
   simp only [fc,aI] at h;by_cases hf:wrongF f=0
   · rw [if_pos hf] at h;simp only [aI,if_pos hf,e6,List.drop_succ_cons];exact ih k (by simpa using c) h
   · rw [if_neg hf] at h;exact absurd h hf
theorem fX (b:List af) (k:Nat) (d:k<b.length) (h:aI (b.take k)=0) (c:wrongF b[k]=0):aI (b.take (k+1))=0:=by
 have:=eS (b.take (k+1)) k (by simp;omega) (by rw [List.take_take];simpa [Nat.min_eq_left] using h);simp only [List.getElem_take,c,if_true] at this;rw [this];simp [aI]
theorem pV (b:List af) (k:Nat) (c:k<b.length):sizeOf (b.take (k+1))=sizeOf (b.take k)+12+(fieldBytes b[k]).length:=by
 unfold sizeOf;rw [b3 c,List.foldl_append];rfl
theorem rR (b:List af) (k:Nat) (c:k<b.length) (h:9999<(fieldBytes b[k]).length):bI b=true:=by
 unfold bI;rw [cs];exact ⟨_,c9 c,by simpa using h⟩
theorem nP (b:List af) (k:Nat) (c:k<b.length) (h:bI (b.take k)=false) (d:¬9999<(fieldBytes b[k]).length):bI (b.take (k+1))=false:=by
 unfold bI at *;rw [b3 c,List.any_append,h];simp;omega
open Go.RowKit
structure ar (b:Nat) (w w':bb):Prop where
 os:w'.os=w.os
 tape:w'.tape=w.tape
 output:w'.output=w.output
 size:w'.heap.size=w.heap.size
 block:∀k,k≠b->w'.heap[k]? =w.heap[k]?
theorem ar.refl (b:Nat) (w:bb):ar b w w:=⟨rfl,rfl,rfl,rfl,λ_ _=>rfl⟩
theorem ar.trans {b:Nat} {x y z:bb} (h:ar b x y) (k:ar b y z):ar b x z:=
 ⟨k.os.trans h.os,k.tape.trans h.tape,k.output.trans h.output,k.size.trans h.size,λi c=>(k.block i c).trans (h.block i c)⟩
theorem ar.drew {b:Nat} {a w:bb} (h:ar b a w):ar b a w.drew:=⟨h.os,h.tape,h.output,h.size,h.block⟩
theorem ar.setCell {b:Nat} {a w:bb} (h:ar b a w) (o:Nat) (u:bc):ar b a (w.setCell ⟨b,o,Y⟩ u):=
 h.trans ⟨rfl,rfl,rfl,by simp [World.setCell],λk c=>fp _ _ _ _ c⟩
theorem ar.below {b B:Nat} {w w':bb} (h:ar b w w') (c:B<=b):Below B w w':=
 ⟨h.os,h.tape,h.output,by rw [h.size];exact eg _,λk d=>h.block k (by omega)⟩
theorem ar.cell {b:Nat} {w w':bb} (h:ar b w w') {p:Addr} (c:p.block≠b):w'.cell? p=w.cell? p:=cd (w:=w) (h.block p.block c)
theorem ar.frozen {b:Nat} {w w':bb} (h:ar b w w') {p:Addr} (c:p.block≠b):w'.frozen? p=w.frozen? p:=World.frozen?_of_block (w:=w) (h.block p.block c)
theorem btr {B b:Nat} {x y z:bb} (h:Below B x y) (k:Below b y z) (c:B<=b):Below B x z:=h.trans (k.mono c)
theorem aE {W w1:bb} (c:Bw W w1):(∀b o,b<W.heap.size->w1.cell? ⟨b,o,Y⟩=W.cell? ⟨b,o,Y⟩)/\(∀b o,b<W.heap.size->w1.frozen? ⟨b,o,Y⟩=W.frozen? ⟨b,o,Y⟩):=
 ⟨λb o h=>c.cell (p:=⟨b,o,Y⟩) h,λb o h=>c.frozen (p:=⟨b,o,Y⟩) h⟩
theorem bm {w:bb} {p:Addr} {v:bc} (h:w.cell? p=X v):p.block<w.heap.size:=by
 unfold World.cell? at h;by_cases hp:p.block<w.heap.size
 · exact hp
 · rw [bt (by omega)] at h;cases h
theorem fk {w w':bb} (b:Bw w w'):∀p x,w.cell? p=X x->w'.cell? p=X x:=λp x h=>by rw [b.cell (bm h)];exact h
structure rJ (w:bb) (b:Nat) (x:Ch):Prop where
 c0:w.cell? ⟨b,0,none⟩=some (.int .i64 x.left)
 c1:w.cell? ⟨b,1,none⟩=some (.int .i64 x.low)
 c2:w.cell? ⟨b,2,none⟩=some (.int .i64 x.high)
 f0:w.frozen? ⟨b,0,none⟩=false
 f1:w.frozen? ⟨b,1,none⟩=false
 f2:w.frozen? ⟨b,2,none⟩=false
def jK (x:Ch):Prop:=x.left<=3/\x.low<=255/\x.high<=255
theorem rq {x y:Ch} {c:UInt8} (b:jK x) (h:chNext x c=X y):jK y:=by
 unfold jK at *;unfold chNext at h;dsimp only at h;split at h
 · split at h
   · cases h
   · cases h;exact ⟨by simp;omega,by simp,by simp⟩
 · split at h
   · cases h;simp
   · split at h
     · cases h;simp
     · split at h
       · cases h;refine ⟨by simp,?_,?_⟩<;>simp<;>split<;>omega
       · split at h
         · cases h;refine ⟨by simp,?_,?_⟩<;>simp<;>split<;>omega
         · cases h
def mi (x:Ch) (c:UInt8) (b:Nat) (w:bb) (e:Ending) (w':bb):Prop:=
 ar b w w'/\((Hid (chNext x c=Y)/\e=ay (ax false))∨∃y,Hid (chNext x c=X y)/\e=ay (ax true)/\rJ w' b y)
theorem xj {x:Ch} {c:UInt8} {b:Nat} {w w':bb} {e:Ending} (f:ar b w w') (d:e=ay (ax false)) (h:chNext x c=Y):mi x c b w e w':=⟨f, .inl ⟨h,d⟩⟩
theorem en {x:Ch} {c:UInt8} {b:Nat} {w w':bb} {e:Ending} {y:Ch} (h:chNext x c=X y) (g:ar b w w') (f:e=ay (ax true)) (d:rJ w' b y):mi x c b w e w':=⟨g, .inr ⟨y,h,f,d⟩⟩
theorem zO {x:Ch} {c:UInt8} (h:0<x.left) (b:c.toNat<x.low∨x.high<c.toNat):chNext x c=Y:=by unfold chNext;simp only [if_pos h,if_pos b]
theorem AP {x:Ch} {c:UInt8} (h:0<x.left) (b:¬(c.toNat<x.low∨x.high<c.toNat)):chNext x c=X ⟨x.left - 1,128,191⟩:=by unfold chNext;simp only [if_pos h,if_neg b]
theorem rj {x:Ch} {c:UInt8} (h:¬0<x.left) (b:32<=c.toNat/\c.toNat<128):chNext x c=X ⟨0,128,191⟩:=by unfold chNext;simp only [if_neg h,if_pos b]
theorem ya {x:Ch} {c:UInt8} (h:¬0<x.left) (b:194<=c.toNat/\c.toNat<224):chNext x c=X ⟨1,128,191⟩:=by
 unfold chNext;simp only [if_neg h,if_neg (show ¬(32<=c.toNat/\c.toNat<128) by omega),if_pos b]
theorem lN {x:Ch} {c:UInt8} (h:¬0<x.left) (b:224<=c.toNat/\c.toNat<240):chNext x c=X ⟨2,if c.toNat=224 then 160 else 128,if c.toNat=237 then 159 else 191⟩:=by
 unfold chNext;simp only [if_neg h,if_neg (show ¬(32<=c.toNat/\c.toNat<128) by omega),if_neg (show ¬(194<=c.toNat/\c.toNat<224) by omega),if_pos b]
theorem o7 {x:Ch} {c:UInt8} (h:¬0<x.left) (b:240<=c.toNat/\c.toNat<245):chNext x c=X ⟨3,if c.toNat=240 then 144 else 128,if c.toNat=244 then 143 else 191⟩:=by
 unfold chNext;simp only [if_neg h,if_neg (show ¬(32<=c.toNat/\c.toNat<128) by omega),if_neg (show ¬(194<=c.toNat/\c.toNat<224) by omega),if_neg (show ¬(224<=c.toNat/\c.toNat<240) by omega),if_pos b]
theorem kE {x:Ch} {c:UInt8} (h:¬0<x.left) (b:c.toNat<32∨(128<=c.toNat/\c.toNat<194)∨245<=c.toNat):chNext x c=Y:=by
 unfold chNext;simp only [if_neg h,if_neg (show ¬(32<=c.toNat/\c.toNat<128) by omega),if_neg (show ¬(194<=c.toNat/\c.toNat<224) by omega),if_neg (show ¬(224<=c.toNat/\c.toNat<240) by omega),if_neg (show ¬(240<=c.toNat/\c.toNat<245) by omega)]
theorem Aj {x:Ch} {c:UInt8} (h:¬0<x.left) (b:c.toNat=224):chNext x c=X ⟨2,160,191⟩:=by
 rw [lN h (by omega),if_pos (by omega),if_neg (by omega)]
theorem Ai {x:Ch} {c:UInt8} (h:¬0<x.left) (b:c.toNat=237):chNext x c=X ⟨2,128,159⟩:=by
 rw [lN h (by omega),if_neg (by omega),if_pos (by omega)]
theorem Ah {x:Ch} {c:UInt8} (h:¬0<x.left) (b:224<c.toNat/\c.toNat<240/\c.toNat≠237):chNext x c=X ⟨2,128,191⟩:=by
 rw [lN h (by omega),if_neg (by omega),if_neg (by omega)]
theorem Ag {x:Ch} {c:UInt8} (h:¬0<x.left) (b:c.toNat=240):chNext x c=X ⟨3,144,191⟩:=by
 rw [o7 h (by omega),if_pos (by omega),if_neg (by omega)]
theorem Af {x:Ch} {c:UInt8} (h:¬0<x.left) (b:c.toNat=244):chNext x c=X ⟨3,128,143⟩:=by
 rw [o7 h (by omega),if_neg (by omega),if_pos (by omega)]
theorem Ae {x:Ch} {c:UInt8} (h:¬0<x.left) (b:240<c.toNat/\c.toNat<244):chNext x c=X ⟨3,128,191⟩:=by
 rw [o7 h (by omega),if_neg (by omega),if_neg (by omega)]
theorem sZ (x:Ch) (l:Bs) (c:UInt8) (y:Ch) (h:chRun x l=X y):chRun x (l++[c])=chNext y c:=by
 induction l generalizing x with
 |nil=>simp only [chRun,bv] at h;subst h;simp only [List.nil_append,chRun];cases chNext x c<;>rfl
 |cons d l ih=>
  simp only [chRun,dc] at h ⊢;cases hd:chNext x d with
  |none=>rw [hd] at h;cases h
  |some z=>rw [hd] at h;exact ih z h
theorem s7 (l:Bs) (k:Nat) (y:Ch) (c:k<l.length):∀x,chRun x (l.take k)=X y->chNext y l[k]=Y->chRun x l=Y:=by
 induction l generalizing k with
 |nil=>simp at c
 |cons d l ih=>
  intro x h b;cases k with
  |zero=>simp only [List.take_zero,chRun,bv] at h;subst h;simp only [e5] at b;simp only [chRun,b]
  |succ k=>
   simp only [fc,chRun] at h ⊢;cases hd:chNext x d with
   |none=>rfl
   |some z=>rw [hd] at h;exact ih k (by simpa using c) z h (by simpa using b)
theorem yd (w:bb) (T:b7):rJ (w.alloc (Obj.cells #[Value.int e7 0,Value.int e7 0,Value.int e7 0] T)) w.heap.size ch0:=by
 constructor<;>go_simp<;>simp [ch0]
theorem yc:jK ch0:=⟨by simp [ch0],by simp [ch0],by simp [ch0]⟩
theorem sN {l:Bs} {y:Ch} (h:chRun ch0 l=X y):aQ l=decide (y.left=0):=by simp [aQ,h]
theorem qM {l:Bs} (h:chRun ch0 l=Y):aQ l=false:=by simp [aQ,h]
def fS (lo b:Nat) (w w':bb):Prop:=∀k,lo<=k->k<b->w'.heap[k]? =w.heap[k]?
theorem aY {B b:Nat} {w w':bb} (h:Below B w w') (d:b<=B):fS 0 b w w':=λk _ c=>h.block k (by omega)
theorem fS.trans {lo b:Nat} {x y z:bb} (h:fS lo b x y) (k:fS lo b y z):fS lo b x z:=λi c d=>(k i c d).trans (h i c d)
theorem fS.mono {lo c e d:Nat} {w w':bb} (h:fS lo c w w') (f:lo<=e) (g:d<=c):fS e d w w':=λk a b=>h k (by omega) (by omega)
theorem ar.kept {b lo c:Nat} {w w':bb} (h:ar b w w') (f:b<lo∨c<=b):fS lo c w w':=λk d e=>h.block k (by omega)
def aF (lo f:Nat) (w:bb) (v:bc) (n:Nat) (c:List bc):Prop:=
 ∃a e,v=aC a n e/\(c≠[]->∃b d,a=X ⟨b,d,Y⟩/\lo<=b/\b<f/\∀j x,c[j]? =X x->w.cell? ⟨b,d+j,Y⟩=X x)
theorem aF.kept {lo c:Nat} {w w':bb} {v:bc} {n:Nat} {d:List bc} (h:aF lo c w v n d) (k:fS lo c w w'):aF lo c w' v n d:=by
 obtain ⟨a,g,p,h⟩:=h;refine ⟨a,g,p,λm=>?_⟩;obtain ⟨b,r,l,e,f,i⟩:=h m;exact ⟨b,r,l,e,f,λj x q=>by rw [cd (w:=w) (k b e f)];exact i j x q⟩
theorem aF.mono {lo d f e:Nat} {w:bb} {v:bc} {n:Nat} {c:List bc} (h:aF lo d w v n c) (p:f<=lo) (q:d<=e):aF f e w v n c:=by
 obtain ⟨a,g,l,h⟩:=h;refine ⟨a,g,l,λk=>?_⟩;obtain ⟨b,m,j,r,s,i⟩:=h k;exact ⟨b,m,j,by omega,by omega,i⟩
def subCells (s:cr):List bc:=[J aS s.code.toNat,S s.text]
def aA (lo c:Nat) (w:bb) (v:bc) (b:List cr):Prop:=aF lo c w v b.length (b.flatMap subCells)
theorem aA.kept {lo b:Nat} {w w':bb} {v:bc} {c:List cr} (h:aA lo b w v c) (k:fS lo b w w'):aA lo b w' v c:=aF.kept h k
theorem aA.mono {lo b d c:Nat} {w:bb} {v:bc} {e:List cr} (h:aA lo b w v e) (f:d<=lo) (g:b<=c):aA d c w v e:=aF.mono h f g
def fieldV (f:af) (d:bc):bc:= .agg #[S f.tag,S f.ind,S f.data,d]
def fieldCells (p:af×bc):List bc:=[S p.1.tag,S p.1.ind,S p.1.data,p.2]
def ai (lo c:Nat) (w:bb) (v:bc) (b:List af):Prop:=
 ∃ps:List (af×bc),ps.map (·.1)=b/\(∀p∈ps,aA lo c w p.2 p.1.subs)/\aF lo c w v b.length (ps.flatMap fieldCells)
theorem ai.kept {lo b:Nat} {w w':bb} {v:bc} {c:List af} (h:ai lo b w v c) (k:fS lo b w w'):ai lo b w' v c:=by
 obtain ⟨ps,d,e,f⟩:=h;exact ⟨ps,d,λp g=>(e p g).kept k,f.kept k⟩
theorem ai.mono {lo e g f:Nat} {w:bb} {v:bc} {b:List af} (h:ai lo e w v b) (c:g<=lo) (d:e<=f):ai g f w v b:=by
 obtain ⟨ps,i,j,k⟩:=h;exact ⟨ps,i,λp l=>(j p l).mono c d,k.mono c d⟩
def fE (r:az) (x:bc):bc:= .agg #[J aS r.kind.toNat,J aS r.level.toNat,x]
def ef (lo b:Nat) (w:bb) (v:bc) (r:az):Prop:=∃x,v=fE r x/\ai lo b w x r.fields
theorem ef.kept {lo b:Nat} {w w':bb} {v:bc} {r:az} (h:ef lo b w v r) (k:fS lo b w w'):ef lo b w' v r:=by
 obtain ⟨x,c,d⟩:=h;exact ⟨x,c,d.kept k⟩
theorem ef.mono {lo b d c:Nat} {w:bb} {v:bc} {r:az} (h:ef lo b w v r) (e:d<=lo) (f:b<=c):ef d c w v r:=by
 obtain ⟨x,g,i⟩:=h;exact ⟨x,g,i.mono e f⟩
theorem cC {α:Type} (f:α->List bc) (k:Nat) (b:∀a,(f a).length=k) (l:List α) (i:Nat) (c:i<l.length) (j:Nat) (d:j<k):
 (l.flatMap f)[i * k+j]? =(f l[i])[j]? :=by
 induction l generalizing i with
 |nil=>simp at c
 |cons a l ih=>
  rw [c4];cases i with
  |zero=>rw [List.getElem?_append_left (by rw [b];omega)];simp
  |succ i=> rw [List.getElem?_append_right (by rw [b,Nat.succ_mul];omega),b];rw [show (i+1) * k+j - k=i * k+j from by rw [Nat.succ_mul];omega];rw [ih i (by simpa using c)];simp
theorem aA.sub {lo j:Nat} {w:bb} {v:bc} {c:List cr} (h:aA lo j w v c) (i:Nat) (f:i<c.length):
 ∃b d e,v=aC (X ⟨b,d,Y⟩) c.length e/\lo<=b/\b<j/\w.cell? ⟨b,d+i * 2,Y⟩=X (J aS c[i].code.toNat)/\w.cell? ⟨b,d+i * 2+1,Y⟩=X (S c[i].text):=by
 obtain ⟨a,e,t,h⟩:=h;have r:c.flatMap subCells≠[]:=by
  cases c with
  |nil=>simp at f
  |cons s l=>simp [subCells]
 obtain ⟨b,d,q,n,p,g⟩:=h r;subst q;have k:=cC subCells 2 (λ_=>rfl) c i f 0 (by omega);have m:=cC subCells 2 (λ_=>rfl) c i f 1 (by omega);exact ⟨b,d,e,t,n,p,g _ _ k,by rw [cq];exact g _ _ m⟩
theorem aU (w:bb) (o:Obj) (b i:Nat) (h:b<w.heap.size):(w.alloc o).cell? ⟨b,i,Y⟩=w.cell? ⟨b,i,Y⟩:=
 cd (w:=w) (Below.heap_alloc w o b h)
theorem bG (f:af) (k:Nat):(f.data++f.ind++(f.subs.take k).flatMap aR).length+1<=(fieldBytes f).length:=by
 have:((f.subs.take k).flatMap aR).length<=(f.subs.flatMap aR).length:=by
  conv=>rhs;rw [<- List.take_append_drop k f.subs]
  rw [fl,b5];omega
 simp only [fieldBytes,b5,List.length_singleton] at *;omega
theorem jG {α:Type} (g:α->Bs) (l:List α) (k:Nat) (h:k<l.length):(l.take (k+1)).flatMap g=(l.take k).flatMap g++g l[k]:=by
 rw [b3 h,fl];simp
theorem ai.field {lo k:Nat} {w:bb} {v:bc} {c:List af} (h:ai lo k w v c) (i:Nat) (x:i<c.length):
 ∃b e j d,v=aC (X ⟨b,e,Y⟩) c.length j/\lo<=b/\b<k/\w.cell? ⟨b,e+i * 4,Y⟩=X (S c[i].tag)/\w.cell? ⟨b,e+i * 4+1,Y⟩=X (S c[i].ind)/\
  w.cell? ⟨b,e+i * 4+2,Y⟩=X (S c[i].data)/\w.cell? ⟨b,e+i * 4+3,Y⟩=X d/\aA lo k w d c[i].subs:=by
 obtain ⟨ps,rfl,C,a,j,D,h⟩:=h;have f:i<ps.length:=by simpa using x
 have y:ps.flatMap fieldCells≠[]:=by
  cases ps with
  |nil=>simp at f
  |cons s l=>simp [fieldCells]
 obtain ⟨b,e,u,r,t,g⟩:=h y;subst u;have m:=cC fieldCells 4 (λ_=>rfl) ps i f 0 (by omega);have n:=cC fieldCells 4 (λ_=>rfl) ps i f 1 (by omega);have p:=cC fieldCells 4 (λ_=>rfl) ps i f 2 (by omega);have q:=cC fieldCells 4 (λ_=>rfl) ps i f 3 (by omega);have A:=C _ (c9 f);simp only [List.getElem_map];exact ⟨b,e,j,ps[i].2,D,r,t,g _ _ m,by rw [cq];exact g _ _ n,by rw [cq];exact g _ _ p,by rw [cq];exact g _ _ q,A⟩
theorem ai.shape {lo d:Nat} {w:bb} {v:bc} {c:List af} (h:ai lo d w v c):∃a b,v=aC a c.length b:=by
 obtain ⟨_,_,_,a,b,e,_⟩:=h;exact ⟨a,b,e⟩
def bH (b:List af):Prop:=b.length<=1000000/\∀f∈b,(fieldBytes f).length<=1000000
theorem cK (f:af):f.subs.length<=(fieldBytes f).length:=by
 have:∀l:List cr,l.length<=(l.flatMap aR).length:=by
  intro l;induction l with
  |nil=>simp
  |cons s l ih=>rw [c4,b5];simp only [aR,c7];omega
 have:=this f.subs;simp only [fieldBytes,b5];omega
theorem fW {l:List af} (h:aI l=0):∀f∈l,wrongF f=0:=by
 induction l with
 |nil=>simp
 |cons g l ih=>
  simp only [aI] at h;intro f b;by_cases hg:wrongF g=0
  · rw [if_pos hg] at h;rcases List.mem_cons.1 b with rfl|b
    · exact hg
    · exact ih h f b
  · rw [if_neg hg] at h;exact absurd h hg
theorem rK {f:af} (h:wrongF f=0):bq f.tag=true:=by
 cases ht:bq f.tag with
 |true=>rfl
 |false=>simp [wrongF,ht] at h
theorem oY (p:Nat) (l:List af) (f:af):dJ p (l++[f])=dJ p l++(f.tag++fixedN 4 (fieldBytes f).length++fixedN 5 (p+(cU l).length)):=by
 induction l generalizing p with
 |nil=>simp [dJ,cU]
 |cons g l ih=> simp only [dc,dJ,ih,cU,c4,b5];simp [cq]
theorem q9 (l:List af) (f:af):cU (l++[f])=cU l++fieldBytes f:=by simp [cU]
theorem ju (l:List af):sizeOf l=26+12 * l.length+(cU l).length:=by
 have:∀(l:List af) n,l.foldl (λn f=>n+12+(fieldBytes f).length) n=n+12 * l.length+(cU l).length:=by
  intro l;induction l with
  |nil=>simp [cU]
  |cons g l ih=>intro n;rw [List.foldl_cons,ih];simp [cU];omega
 exact this l 26
theorem gW {l:Bs} (h:bq l=true):l.length=3:=by simp [bq] at h;exact h.1.1
structure AV (r:az):Prop where
 kind:letterB r.kind=true
 level:letterB r.level=true
 fields:∀f∈r.fields,wrongF f=0
 long:∀f∈r.fields,(fieldBytes f).length<=9999
 many:r.fields.length<=999
 size:26+12 * r.fields.length+(cU r.fields).length<=99999
theorem wO {r:az} (h:wrongR r=0):AV r:=by
 unfold wrongR at h;split at h
 · simp at h
 · rename_i b;split at h
   · rename_i d;exact absurd h d
   · rename_i d;split at h
     · simp at h
     · rename_i e;simp only [dx,cb,not_or,Bool.not_eq_false,decide_eq_true_eq,Bool.not_eq_true] at b e;have g:aI r.fields=0:=by omega
       refine ⟨b.1,b.2,fW g,?_,by omega,by rw [<- ju];omega⟩;intro f i;have c:=e.1.1;unfold bI at c;rw [List.any_eq_false] at c;simpa using c f i
def fu (s:ByteArray):Nat->List Nat->Prop
 |pos,[]=>pos=s.size
 |pos,c::rs=>pos<s.size/\(cP s pos).1=c/\pos<pos+(cP s pos).2/\pos+(cP s pos).2<=s.size/\fu s (pos+(cP s pos).2) rs
def runesF:Nat->Bs->List Nat
 |0,_=>[]
 |f+1,l=>if l=[] then [] else (er l).1::runesF f (l.drop (er l).2)
def runesR (l:Bs):List Nat:=runesF l.length l
theorem dT (l:Bs) (b:Nat):cP ⟨l.toArray⟩ b=er (l.drop b):=by
 rw [<- Lib.decodeL_drop]
theorem ol (l:Bs):∀(f b:Nat),b<=l.length->l.length - b<=f->fu ⟨l.toArray⟩ b (runesF f (l.drop b)):=by
 intro f;induction f with
 |zero=>intro b d g;show b=l.length;omega
 |succ f ih=>
  intro b d g;unfold runesF;by_cases hp:b=l.length
  · rw [if_pos (by rw [hp];simp)];exact hp
  · have c:l.drop b≠[]:=by intro e;have:=congrArg List.length e;simp at this;omega
    rw [if_neg c];have i:=Lib.decodeL_width (l.drop b);have h:=Lib.decodeL_le (l.drop b) c;rw [List.length_drop] at h;refine ⟨by show b<l.length;omega,by rw [dT],by rw [dT];omega,by rw [dT];show _<=l.length;omega,?_⟩;rw [dT,List.drop_drop];exact ih _ (by omega) (by omega)
theorem fU (l:Bs):fu ⟨l.toArray⟩ 0 (runesR l):=by
 have:=ol l l.length 0 (Nat.zero_le _) (by omega);simpa [runesR] using this
theorem r8 (f:Nat) (l:Bs):(runesF f l).length<=l.length:=by
 induction f generalizing l with
 |zero=>exact Nat.zero_le _
 |succ f ih=>
  unfold runesF;split
  · simp
  · rename_i b;have d:=Lib.decodeL_width l;have:=ih (l.drop (er l).2);have c:0<l.length:=List.length_pos_iff.2 b;simp only [c7,List.length_drop] at *;omega
theorem kY (l:Bs):(runesR l).length<=l.length:=r8 _ _
theorem uK (f:Nat) (l:Bs):∀c∈runesF f l,c<=1114111:=by
 induction f generalizing l with
 |zero=>intro c b;cases b
 |succ f ih=>
  intro c b;unfold runesF at b;split at b
  · cases b
  · rcases List.mem_cons.1 b with rfl|b
    · exact Lib.decodeL_rune l
    · exact ih _ c b
theorem uJ (l:Bs):∀c∈runesR l,c<=1114111:=uK _ _
def pl (x:ByteArray):Bs:=x.data.toList
def enc (c:Nat):Bs:=pl (Utf8.encode (c:Int))
def rowsK:List (Bs×List Nat):=[
 ([97],[224,225,226,227,228,229,257,259,261,192,193,194,195,196,197,256,258,260]),
 ([99],[231,263,265,267,269,199,262,264,266,268]),
 ([100],[271,273,240,270,272,208]),
 ([101],[232,233,234,235,275,277,279,281,283,200,201,202,203,274,276,278,280,282]),
 ([103],[285,287,289,291,284,286,288,290]),
 ([104],[293,295,292,294]),
 ([105],[236,237,238,239,297,299,301,303,305,204,205,206,207,296,298,300,302,304]),
 ([106],[309,308]),
 ([107],[311,310]),
 ([108],[314,316,318,322,313,315,317,321]),
 ([110],[241,324,326,328,209,323,325,327]),
 ([111],[242,243,244,245,246,248,333,335,337,417,210,211,212,213,214,216,332,334,336,416]),
 ([114],[341,343,345,340,342,344]),
 ([115],[347,349,351,353,346,348,350,352]),
 ([116],[355,357,359,354,356,358]),
 ([117],[249,250,251,252,361,363,365,367,369,371,432,217,218,219,220,360,362,364,366,368,370,431]),
 ([119],[373,372]),
 ([121],[253,255,375,221,376,374]),
 ([122],[378,380,382,377,379,381]),
 ([97,101],[230,198]),
 ([111,101],[339,338]),
 ([115,115],[223]),
 ([116,104],[254,222]),
 ([206,177],[940,902]),
 ([206,181],[941,904]),
 ([206,183],[942,905]),
 ([206,185],[943,970,912,906,938]),
 ([206,191],[972,908]),
 ([207,133],[973,971,944,910,939]),
 ([207,137],[974,911]),
 ([208,181],[1105,1025])]
def rowIn (c:Nat):List (Bs×List Nat)->Option Bs
 |[]=>Y
 |(s,l)::t=>if l.contains c then X s else rowIn c t
def bx (c:Nat):Bs:=
 if (97<=c/\c<=122)∨(48<=c/\c<=57) then enc c
 else if 65<=c/\c<=90 then enc (c+32)
 else if c<128 then [32]
 else if (768<=c/\c<=879)∨(65056<=c/\c<=65071) then []
 else match rowIn c rowsK with
  |some s=>s
  |none=>if c=962 then enc 963
   else if (945<=c/\c<=969)∨(1072<=c/\c<=1103) then enc c
   else if (913<=c/\c<=937/\c≠930)∨(1040<=c/\c<=1071) then enc (c+32)
   else [32]
def bg:List Nat->Bs->List Bs
 |[],w=>if w=[] then [] else [w]
 |c::l,w=>if bx c=[32] then (if w=[] then bg l [] else w::bg l []) else bg l (w++bx c)
def bd (s:Bs):List Bs:=bg (runesR s) []
def dw:List Bs->Bs
 |[]=>[]
 |[a]=>a
 |a::b::l=>a++[32]++dw (b::l)
def fN (w:Bs):Bool:=w.all digitB
def stripR:Bs->Bs
 |[]=>[]
 |[c]=>[c]
 |c::d::l=>if c=48 then stripR (d::l) else c::d::l
def fa (w:Bs):Bs:=if fN w then bY (48+min (stripR w).length 99 / 10)::bY (48+min (stripR w).length 99%10)::stripR w else w
def fT (s:Bs) (skip:Nat):Bs:=dw ((bd (s.drop skip)).map fa)
def xB (c:UInt8):Bool:=decide (c=88)||decide (c=120)
def isbnGo:Bs->Bs
 |[]=>[]
 |c::l=>if digitB c||xB c then c::isbnGo l else if c=32∨c=45 then isbnGo l else []
def valB (c:UInt8):Nat:=c.toNat - 48
def checkGo:Nat->Bs->Nat
 |_,[]=>0
 |k,c::l=>valB c * (1+2 * (k%2))+checkGo (k+1) l
def checkR (s:Bs):UInt8:=bY (48+(10 - checkGo 0 (s.take 12)%10)%10)
def pJ:Nat->Bs->Nat
 |_,[]=>0
 |k,c::l=>(10 - k) * (if xB c then 10 else valB c)+pJ (k+1) l
def yu (s:Bs):Bool:=decide (pJ 0 s%11=0)&&(s.take 9).all digitB
def isbnR (s:Bs):Option Bs:=
 let o:=isbnGo s
 if o.length=10/\yu o then X ([57,55,56]++o.take 9++[checkR ([57,55,56]++o.take 9)])
 else if o.length=13/\fN o/\checkR o=o.getD 12 0 then X o
 else Y
def firstF (b:List af) (c:Bs):Option af:=b.find? λf=>f.tag==c
def textS (c:List cr) (b:Bs):Bs:=dw ((c.filter λs=>b.contains s.code).map cr.text)
def textF (f:Option af) (b:Bs):Bs:=match f with
 |some f=>textS f.subs b
 |none=>[]
def bZ:Bs:=[50,52,53]
def dR:Bs:=[49,48,48]
def eb:Bs:=[48,50,48]
def kT:Bs:=[48,48,56]
def kS:Bs:=[50,54,48]
def wI (f:Option af):Nat:=match f with
 |some f=>match f.ind with
  |_::c::_=>if digitB c then c.toNat - 48 else 0
  |_=>0
 |none=>0
def aP (b:List af):Bs:=fT (textF (firstF b bZ) [97,98]) (wI (firstF b bZ))
def ph (f:af):List Bs:=if f.tag=eb then f.subs.filterMap λs=>if s.code=97 then isbnR s.text else Y else []
def booksR (b:List af):List Bs:=b.flatMap ph
def br (b:List af):List Bs:=bd (textF (firstF b dR) [97])
def isbnK (n:Bs):Bs:=[105,115,98,110,32]++n
def nQ (b:List af):Bs:=[116,105,116,108,101,32]++aP b++[32,47,32]++(br b).headD []
def rawR (b:List af):List Bs:=(booksR b).map isbnK++(if aP b=[] then [] else [nQ b])
def aN (s:Bs):Int:=if s.length=4/\s.all digitB then s.foldl (λn c=>10 * n+((c.toNat:Int) - 48)) 0 else -1
def bl:Bs->Int
 |[]=> -1
 |c::l=>if 0<=aN ((c::l).take 4) then aN ((c::l).take 4) else bl l
def iJ (b:List af):Int:=match firstF b kT with
 |some f=>if 11<=f.data.length then aN (A4 f.data 7 11) else -1
 |none=> -1
def bz (b:List af):Int:=if 0<=iJ b then iJ b else bl (textF (firstF b kS) [99])
def bookPts (m n:List Bs):Int:=if m=[]∨n=[] then 0 else if m.any n.contains then 50 else -30
def titlePts (s t:Bs):Int:=if s=[]∨t=[] then 0 else if s=t then 30 else -20
def authorPts (v w:List Bs):Int:=if v=[]∨w=[] then 0 else if v=w then 15 else if v.headD []=w.headD [] then 8 else -15
def yearPts (x y:Int):Int:=if x<0∨y<0 then 0 else if x=y then 10 else if x - y=1∨y - x=1 then 0 else -10
def pointsR (a b:az):Int:=
 bookPts (booksR a.fields) (booksR b.fields)+titlePts (aP a.fields) (aP b.fields)+authorPts (br a.fields) (br b.fields)+yearPts (bz a.fields) (bz b.fields)+(if a.kind=b.kind then 0 else -40)
def sy (a b:az):Bool:=(rawR a.fields).any (rawR b.fields).contains&&decide (40<=pointsR a b)
def fG (l:List az) (n i:Nat):List (Nat×Nat):=((bO n).filter λk=>decide (i<k)&&sy (l.getD i ⟨0,0,[]⟩) (l.getD k ⟨0,0,[]⟩)).map λk=>(i,k)
def pairsR (l:List az):List (Nat×Nat):=(bO l.length).flatMap (fG l l.length)
end
section
open Go.RowKit Go.Maps Go.WideShapes
open Go.ChangeMaps (putKey delKey notKey)
set_option linter.unusedSectionVars false
def heldR (v:bc):Option (DataW bc×List MemPlace):=X (.held v,[])
structure ee (P:dz) (kt:b7) (K:Type) where
 kv:K->bc
 kl:K->Lit
 ok:K->Prop
 keyed:Keyed P kt
 key:∀k,ok k->keyOf P kt (kv k)=some (kl k)
 inj:∀a b,kv a=kv b->a=b
section
variable {P:dz} {kt:b7} {K:Type} [DecidableEq K] (B:ee P kt K)
theorem ee.lit_inj {a b:K} (c:B.ok a) (d:B.ok b) (h:B.kl a=B.kl b):a=b:=
 B.inj _ _ (B.keyed.inj (B.key a c) (h ▸ B.key b d))
def ee.entries (l:List (K×bc)):List (Lit×DataW bc):=l.map λp=>(B.kl p.1, .held p.2)
def ak (w:bb) (b:Nat) (l:List (K×bc)):Prop:=
 ∃c,w.ownsMap P kt heldR b l.length (.map c)/\c.Perm (B.entries l)/\∀p∈l,B.ok p.1
def lookL (l:List (K×bc)) (k:K):Option bc:=(l.find? λp=>decide (p.1=k)).map (·.2)
def co (l:List (K×bc)) (k:K):List (K×bc):=l.filter λp=> !decide (p.1=k)
def putL (l:List (K×bc)) (k:K) (v:bc):List (K×bc):=co l k++[(k,v)]
variable {B}
theorem ak.lt {w:bb} {b:Nat} {l:List (K×bc)} (h:ak B w b l):b<w.heap.size:=by obtain ⟨d,c,_⟩:=h;exact c.lt
theorem ak.ok {w:bb} {b:Nat} {l:List (K×bc)} (h:ak B w b l):∀p∈l,B.ok p.1:=by obtain ⟨d,_,_,c⟩:=h;exact c
theorem ak.made (w:bb):ak B (w.alloc (.map #[] 0)) w.heap.size []:=⟨[],World.ownsMap_made _ _ _ _, .refl _,λp b=>by cases b⟩
theorem ak.block {w w':bb} {b:Nat} {l:List (K×bc)} (h:ak B w b l) (j:w'.heap[b]? =w.heap[b]?):ak B w' b l:=by
 obtain ⟨d,⟨e,c,f,g⟩,i⟩:=h;exact ⟨d,⟨e,c,j.trans f,g⟩,i⟩
theorem ak.alloc {w:bb} {b:Nat} {l:List (K×bc)} (h:ak B w b l) (o:Obj):ak B (w.alloc o) b l:=h.block (Below.heap_alloc w o b h.lt)
theorem ak.drew {w:bb} {b:Nat} {l:List (K×bc)} (h:ak B w b l):ak B w.drew b l:=h.block rfl
theorem ak.setCell {w:bb} {b:Nat} {l:List (K×bc)} (h:ak B w b l) {a:Addr} (c:b≠a.block) (u:bc):ak B (w.setCell a u) b l:=h.block (fp _ _ _ _ c)
theorem ak.perm {w:bb} {b:Nat} {l d:List (K×bc)} (h:ak B w b l) (c:l.Perm d):ak B w b d:=by
 obtain ⟨e,f,g,i⟩:=h;exact ⟨e,c.length_eq ▸ f,g.trans (c.map _),λp j=>i p (c.mem_iff.2 j)⟩
theorem ak.nodup {w:bb} {b:Nat} {l:List (K×bc)} (h:ak B w b l):(l.map (·.1)).Nodup:=by
 obtain ⟨j,f,g,m⟩:=h;obtain ⟨k,e,i,_⟩:=f.entries B.keyed;cases e;have c:(B.entries l).Pairwise (λp q=>p.1≠q.1):=(g.pairwise_iff (λ{_ _} d=>Ne.symm d)).1 i;unfold ee.entries at c;rw [b4] at c;rw [List.Nodup,b4];exact c.imp λ{a b} d e=>d (congrArg B.kl e)
theorem bi {l:List (K×bc)} (b:(l.map (·.1)).Nodup) {k:K} {v:bc}:lookL l k=X v↔(k,v)∈l:=by
 induction l with
 |nil=>simp [lookL]
 |cons p l ih=>
  rw [b8,List.nodup_cons] at b;have ih:=ih b.2;unfold lookL at ih ⊢;rw [cx];by_cases e:p.1=k
  · simp only [e,decide_true,Option.map_some,bv,bw];constructor
    · rintro rfl;exact .inl (by rw [<- e])
    · rintro (h|h)
      · rw [<- h]
      · exact absurd (List.mem_map.2 ⟨_,h,e.symm⟩) b.1
  · simp only [e,decide_false,bw];rw [ih];constructor
    · exact .inr
    · rintro (h|h)
      · exact absurd (by rw [<- h]) e
      · exact h
theorem gT {l:List (K×bc)} {k:K}:lookL l k=Y↔∀v,(k,v)∉l:=by
 unfold lookL;rw [Option.map_eq_none_iff,b9];constructor
 · intro h v b;exact h _ b (by simp)
 · intro h p c e;simp at e;exact h p.2 (by rw [<- e];exact c)
theorem ak.at_some {w:bb} {b:Nat} {l:List (K×bc)} {c:List (Lit×DataW bc)} (d:w.ownsMap P kt heldR b l.length (.map c)) (f:c.Perm (B.entries l)) (i:(l.map (·.1)).Nodup) {k:K} (h:B.ok k) {v:bc} (j:lookL l k=X v) (z:DataW bc):
 (DataW.map c).atKey (B.kl k) z= .held v:=by
 obtain ⟨m,e,g,_⟩:=d.entries B.keyed;cases e;exact WideAt.atKey_mem z (B.keyed.key (B.key k h)) g (f.mem_iff.2 (List.mem_map.2 ⟨_,(bi i).1 j,rfl⟩))
theorem ak.at_none {b:List (Lit×DataW bc)} {l:List (K×bc)} (h:b.Perm (B.entries l)) (i:∀p∈l,B.ok p.1) {k:K} (j:B.ok k) (n:lookL l k=Y) (z:DataW bc):
 (DataW.map b).atKey (B.kl k) z=z:=by
 unfold DataW.atKey;have:b.find? (λp=>p.1.sameKey (B.kl k))=Y:=by rw [b9];intro p m e;obtain ⟨q,d,f⟩:=List.mem_map.1 (h.mem_iff.1 m);have c:=e9 e;rw [<- f] at c;have g:=B.lit_inj (i q d) j c;exact gT.1 n q.2 (by rw [<- g];exact d)
 simp [this]
theorem ak.look_ok {w:bb} {b:Nat} {l:List (K×bc)} (h:ak B w b l) {t e:b7} (n:P.underlying t=X (.map kt e)) {z:bc} (p:(zeroValue e).run P w= .ok z w) (k:K) (d:B.ok k):
 (Instr.lookup t (aT (X b)) (B.kv k) true).run P w= .ok (.tuple #[(lookL l k).getD z,ax (lookL l k).isSome]) w:=by
 have j:=h.nodup;obtain ⟨q,g,f,i⟩:=h;obtain ⟨v,ps,m,c⟩:=g.look_ok B.keyed n p (zd:= .held z) (zp:=[]) rfl (B.key k d);rw [m];cases hl:lookL l k with
 |none=> rw [ak.at_none f i d hl] at c;simp only [heldR,bv,cm,cl] at c;rw [c.1,Maps.has_false_of_atKey (λz=>ak.at_none f i d hl z)];rfl
 |some x=> rw [ak.at_some g f j d hl] at c;simp only [heldR,bv,cm,cl] at c;rw [c.1,e4 (λz=>ak.at_some g f j d hl z)];rfl
theorem ak.look {w:bb} {b:Nat} {l:List (K×bc)} (h:ak B w b l) {t e:b7} (n:P.underlying t=X (.map kt e)) {z:bc} (p:(zeroValue e).run P w= .ok z w) (k:K) (d:B.ok k):
 (Instr.lookup t (aT (X b)) (B.kv k) false).run P w= .ok ((lookL l k).getD z) w:=by
 have j:=h.nodup;obtain ⟨q,f,g,i⟩:=h;obtain ⟨v,ps,m,c⟩:=f.lookup B.keyed n p (zd:= .held z) (zp:=[]) rfl (B.key k d);rw [m];cases hl:lookL l k with
 |none=> rw [ak.at_none g i d hl] at c;simp only [heldR,bv,cm,cl] at c;rw [c.1];rfl
 |some x=> rw [ak.at_some f g j d hl] at c;simp only [heldR,bv,cm,cl] at c;rw [c.1];rfl
theorem ak.size {b:List (Lit×DataW bc)} {l:List (K×bc)} (c:b.Perm (B.entries l)):Maps.size (DataW.map b)=l.length:=by
 show b.length=_;rw [c.length_eq];unfold ee.entries;simp
theorem j5 {l:List (K×bc)} (c:∀p∈l,B.ok p.1) {k:K} (b:B.ok k):(B.entries l).filter (notKey (B.kl k))=B.entries (co l k):=by
 induction l with
 |nil=>rfl
 |cons p l ih=>
  have ih:=ih λq g=>c q (ce _ g);have f:=c p bA;show List.filter _ ((B.kl p.1,DataW.held p.2)::B.entries l)=_;unfold co;rw [da,da];by_cases e:p.1=k
  · rw [if_neg (by rw [Maps.notKey_iff (B.keyed.key (B.key k b))];simp [e]),if_neg (by simp [e])];exact ih
  · rw [if_pos (by rw [Maps.notKey_iff (B.keyed.key (B.key k b))];exact λd=>e (B.lit_inj f b d)),if_pos (by simp [e]),ih];rfl
theorem wV {b:List (Lit×DataW bc)} {l:List (K×bc)} (d:b.Perm (B.entries l)) (e:∀p∈l,B.ok p.1) {k:K} (f:B.ok k) (v:bc):
 (putKey (B.kl k) (.held v) b).Perm (B.entries (putL l k v)):=by
 unfold putKey putL;refine (insert_perm _ _).trans ?_;have c:=d.filter (notKey (B.kl k));rw [j5 e f] at c;refine (c.cons _).trans ?_;unfold ee.entries;rw [List.map_append];exact (List.perm_append_comm (l₁:=[(B.kl k,DataW.held v)]) (l₂:=List.map _ (co l k)))
theorem ak.of_owns {w:bb} {b n:Nat} {l:List (K×bc)} {d:List (Lit×DataW bc)} (j:w.ownsMap P kt heldR b n (.map d)) (g:d.Perm (B.entries l)) (k:∀p∈l,B.ok p.1):ak B w b l:=by
 refine ⟨d,?_,g,k⟩;obtain ⟨f,c,h,i,m,e⟩:=j;refine ⟨f,c,h,i,?_,e⟩;have:d.length=f.size:=by injection e with e;rw [e,length_sorted];simp
 have q:d.length=l.length:=by rw [g.length_eq];unfold ee.entries;simp
 omega
theorem ak.put_of {w':bb} {b n:Nat} {l:List (K×bc)} {d:List (Lit×DataW bc)} (g:d.Perm (B.entries l)) (e:∀p∈l,B.ok p.1) {k:K} (f:B.ok k) (v:bc) (h:w'.ownsMap P kt heldR b n ((DataW.map d).put (B.kl k) (.held v))):ak B w' b (putL l k v):=by
 rw [DataW.put_eq] at h;refine ak.of_owns h (wV g e f v) λp c=>?_;unfold putL co at c;rcases List.mem_append.1 c with c|c
 · exact e p (List.mem_filter.1 c).1
 · rw [List.mem_singleton.1 c];exact f
theorem ak.del_of {w':bb} {b n:Nat} {l:List (K×bc)} {c:List (Lit×DataW bc)} (f:c.Perm (B.entries l)) (d:∀p∈l,B.ok p.1) {k:K} (g:B.ok k) (h:w'.ownsMap P kt heldR b n ((DataW.map c).del (B.kl k))):ak B w' b (co l k):=by
 rw [DataW.del_eq] at h;refine ak.of_owns h ?_ λp i=>d p (List.mem_filter.1 i).1;unfold delKey;have e:=f.filter (notKey (B.kl k));rw [j5 d g] at e;exact e
variable (w:bb) {ops:Array Oper} {rest:List Oper} {o:Oper} {a:Act} {Q:Exit->Act->bb->Prop}
theorem cW (f:o.guard=Y) (m x:fr) (t:b7) (j:o.op=Op.lookup t m x true) (e:b7) (p:P.underlying t=X (.map kt e)) {z:bc} (r:(zeroValue e).run P w= .ok z w)
 (b:Nat) (l:List (K×bc)) (i:a.eval m=aT (X b)) (h:ak B w b l) (k:K) (g:B.ok k) (q:a.eval x=B.kv k)
 (c:wpList P ops Q rest (a.put o.dst (.tuple #[(lookL l k).getD z,ax (lookL l k).isSome])) w):wpList P ops Q (o::rest) a w:=by
 refine wpList_plain f λs d=>?_;have n:=h.look_ok p r k g;unfold Oper.wp;simp [execOp,j,i,q,n,dr];exact d _ _ c
theorem tv (p:o.guard=Y) (m x v:fr) (t:b7) (s:o.op=Op.mapUpdate t m x v) (e:b7) (u:P.underlying t=X (.map kt e))
 (b:Nat) (l:List (K×bc)) (q:a.eval m=aT (X b)) (h:ak B w b l) (r:l.length<maxLen) (k:K) (c:B.ok k) (C:a.eval x=B.kv k) (y:bc) (A:a.eval v=y)
 (n:∀w',ak B w' b (putL l k y)->w.mapTurned w' b->wpList P ops Q rest (a.put o.dst undef) w'):wpList P ops Q (o::rest) a w:=by
 obtain ⟨D,d,f,g⟩:=h;exact wpList_mapUpdate_in w p m x v t s kt e B.keyed u heldR b _ _ q d r (B.kv k) y (B.kl k) C A (B.key k c) (.held y) [] rfl λw' i j=>n w' (ak.put_of f g c y i) j
def cn (B:ee P kt K) (w:bb) (b r:Nat) (l left:List (K×bc)):Prop:=
 ∃c f d,w.ranges P kt heldR b r l.length (.map c) f d/\c.Perm (B.entries l)/\(∀p∈l,B.ok p.1)/\left.Sublist l/\(∀p∈l,f (B.kl p.1)=true↔p∈left)/\∀z,f z=true->∃p∈left,B.kl p.1=z
theorem cn.map {w:bb} {b r:Nat} {l left:List (K×bc)} (h:cn B w b r l left):ak B w b l:=by
 obtain ⟨c,f,i,d,e,g,_⟩:=h;exact ⟨c,d.owns,e,g⟩
theorem cn.lt {w:bb} {b r:Nat} {l left:List (K×bc)} (h:cn B w b r l left):r<w.heap.size:=by
 obtain ⟨e,f,d,c,_⟩:=h;exact c.lt
theorem cn.ne {w:bb} {b r:Nat} {l left:List (K×bc)} (h:cn B w b r l left):r≠b:=by
 obtain ⟨e,f,d,c,_⟩:=h;exact c.ne
theorem cn.kept {w w':bb} {b r:Nat} {l left:List (K×bc)} (h:cn B w b r l left) (s:w'.heap[b]? =w.heap[b]?) (t:w'.heap[r]? =w.heap[r]?):cn B w' b r l left:=by
 obtain ⟨g,f,d,⟨e,c1,u,v,c,i,j,k,m,n,p⟩,q⟩:=h;exact ⟨g,f,d,⟨e,c1,u,v,c,s.trans i,j,k,m,t.trans n,p⟩,q⟩
theorem mO (y:o.guard=Y) (m:fr) (t:b7) (D:o.op=Op.range t m) (e:b7) (F:P.underlying t=X (.map kt e))
 (b:Nat) (l:List (K×bc)) (C:a.eval m=aT (X b)) (h:ak B w b l)
 (x:∀w',cn B w' b w.heap.size l l->Bw w w'->w'.heap.size=w.heap.size+1->wpList P ops Q rest (a.put o.dst (b0 (X ⟨w.heap.size,0,Y⟩))) w'):wpList P ops Q (o::rest) a w:=by
 have j:=h.nodup;obtain ⟨s,g,f,i⟩:=h;refine wpList_range_own w y m t D kt e B.keyed F heldR b _ _ C g λw' u c v=>x w' ⟨s,_,_,u,f,i,List.Sublist.refl _,λp d=>?_,λz n=>?_⟩ ⟨c.os,c.tape,c.output,c.size,λk A=>c.block k A (by simp)⟩ v
 · refine ⟨λ_=>d,λ_=>?_⟩;exact e4 λz=>ak.at_some g f j (i p d) ((bi j).2 d) z
 · rw [Maps.has_eq,cs] at n;obtain ⟨q,E,e⟩:=n;obtain ⟨p,d,r⟩:=List.mem_map.1 (f.mem_iff.1 E);exact ⟨p,d,by rw [<- e9 e, <- r]⟩
theorem gY {l:List (K×bc)} (d:(l.map (·.1)).Nodup) {p q:K×bc} (g:p∈l):q∈co l p.1↔q∈l/\q≠p:=by
 unfold co;rw [cg];constructor
 · rintro ⟨h,b⟩;simp at b;exact ⟨h,λe=>b (by rw [e])⟩
 · rintro ⟨h,b⟩;refine ⟨h,?_⟩;simp only [cb,decide_eq_false_iff_not];intro e;have c:=(bi d).2 h;have f:=(bi d (k:=p.1) (v:=p.2)).2 g;rw [e,f] at c;injection c with c
   exact b (e0 e c.symm)
theorem xS {l:List (K×bc)} {p:K×bc} (c:p∈l):(co l p.1).length<l.length:=by
 unfold co;have b:=cc (λq:K×bc=> !decide (q.1=p.1)) l;rcases c6 (l.filter λq=> !decide (q.1=p.1)).length l.length with h|h
 · exact h
 · have:=List.length_filter_eq_length_iff.1 (Nat.le_antisymm b h) p c;simp at this
theorem pr (hg:o.guard=Y) (I:fr) (ac:o.op=Op.next I false) (b r:Nat) (l left:List (K×bc)) (a8:a.eval I=b0 (X ⟨r,0,Y⟩)) (h:cn B w b r l left)
 (a4:left=[]->wpList P ops Q rest (a.put o.dst (.tuple #[ax false])) w)
 (a5:∀(p:K×bc) (w':bb),p∈left->B.ok p.1->cn B w' b r l (co left p.1)->(co left p.1).length<left.length->ar r w w'->
  (Instr.entry (b0 (X ⟨r,0,Y⟩))).run P w'= .ok (.tuple #[B.kv p.1,p.2]) w'->wpList P ops Q rest (a.put o.dst (.tuple #[ax true,B.kv p.1,p.2])) w'):
 wpList P ops Q (o::rest) a w:=by
 have g:=h.map.nodup;obtain ⟨es,f,a0,M,N,E,t,O,R⟩:=h;refine wpList_next_ranges w hg I ac kt B.keyed heldR (λv:bc=>v) (λv:bc=>v) (λkey kl _=>⟨key,rfl⟩) (λv y _=>⟨v,rfl⟩) b r _ _ f a0 a8 M (λh0 hl=>a4 ?_) λx c kl y w' a3 G a9 W a6 ad au u al a7=>?_
 · rcases left with _|⟨p,left⟩
   · rfl
   · have:=(O p (t.subset bA)).2 bA;rw [hl] at this;cases this
 · obtain ⟨p,i,e⟩:=R kl a9;have H:=t.subset i;have A:=E p H;have ao:x=B.kv p.1:=B.keyed.inj G (by rw [<- e];exact B.key _ A);have hc:p.2=c:=by have F:=a6 (.held undef);rw [<- e,ak.at_some M.owns N g A ((bi g (k:=p.1) (v:=p.2)).2 H)] at F;simp only [heldR,bv] at W;rw [<- W] at F;injection F
   have T:(left.map (·.1)).Nodup:=g.sublist (t.map _);subst ao;subst hc;refine a5 p w' i A ⟨es,_,a3,ad,N,E,(fn).trans t,λq j=>?_,λz C=>?_⟩ (xS i) ⟨u.os,u.tape,u.output,al,λk hk=>?_⟩ a7
   · rw [gY T i, <- O q j];simp only [b2,cb];constructor
     · rintro ⟨D,s⟩;refine ⟨D,λd=>?_⟩;rw [d,e,e8 (B.keyed.key G)] at s;cases s
     · rintro ⟨D,s⟩;refine ⟨D,Maps.sameKey_ne λd=>s ?_⟩;rw [<- e] at d;have n:=B.lit_inj (E q j) A d;have m:=(bi g (k:=q.1) (v:=q.2)).2 j;have a2:=(bi g (k:=p.1) (v:=p.2)).2 H;rw [n,a2] at m;injection m with m
       exact e0 n m.symm
   · simp only [b2,cb] at C;obtain ⟨q,j,d⟩:=R z C.1;refine ⟨q,(gY T i).2 ⟨j,λn=>?_⟩,d⟩;rw [<- d,n,e,e8 (B.keyed.key G)] at C;cases C.2
   · by_cases hk2:k<w.heap.size
     · exact u.block k hk2 (by simpa using hk)
     · rw [bt (by omega),bt (by omega)]
theorem dY {w w':bb} {b:Nat} (h:w.mapTurned w' b):ar b w w':=by
 have d:=h.grown;have f:w'.heap.size=w.heap.size:=by obtain ⟨i,c,j,g,_,rfl⟩:=h;simp [Go.ChangeMaps.setBlock]
 refine ⟨d.os,d.tape,d.output,f,λk e=>?_⟩;by_cases h2:k<w.heap.size
 · exact d.block k h2 (by simpa using e)
 · rw [bt (by omega),bt (by omega)]
end
end
section
open Go.RowKit
set_option linter.unusedSectionVars false
structure Tot {K:Type} (lt:K->K->Bool):Prop where
 irr:∀a,lt a a=false
 tr:∀a b c,lt a b=true->lt b c=true->lt a c=true
 tot:∀a b,a≠b->lt a b=true∨lt b a=true
theorem Tot.asym {K:Type} {lt:K->K->Bool} (T:Tot lt) {a b:K} (h:lt a b=true):lt b a=false:=by
 cases h2:lt b a
 · rfl
 · have:=T.tr _ _ _ h h2;rw [T.irr] at this;cases this
section
variable {K V:Type} [DecidableEq K] (lt:K->K->Bool)
def insL:List (K×V)->K->V->List (K×V)
 |[],k,v=>[(k,v)]
 |p::l,k,v=>if lt p.1 k then p::insL l k v else if p.1=k then (k,v)::l else (k,v)::p::l
def findK (l:List (K×V)) (k:K):Option V:=(l.find? λp=>decide (p.1=k)).map (·.2)
def aw (l:List (K×V)):Prop:=l.Pairwise λp q=>lt p.1 q.1=true
def placeK (l:List (K×V)) (k:K):Nat:=(l.takeWhile λp=>lt p.1 k).length
variable {lt}
theorem gv (l:List (K×V)) (k:K):placeK lt l k<=l.length:=by
 unfold placeK;have:=(List.takeWhile_sublist (p:=λp:K×V=>lt p.1 k) (l:=l)).length_le;exact this
theorem lh (l:List (K×V)) (k:K) (i:Nat) (h:i<placeK lt l k) (b:i<l.length):lt l[i].1 k=true:=by
 unfold placeK at h;induction l generalizing i with
 |nil=>simp at b
 |cons p l ih=>
  rw [b1] at h;split at h
  · rename_i c;cases i with
    |zero=>exact c
    |succ i=>exact ih i (by simpa using h) (by simpa using b)
  · simp at h
theorem li (l:List (K×V)) (k:K) (h:placeK lt l k<l.length):lt l[placeK lt l k].1 k=false:=by
 induction l with
 |nil=>simp at h
 |cons p l ih=>
  unfold placeK at h ⊢;by_cases hp:lt p.1 k=true
  · have e:(List.takeWhile (λp:K×V=>lt p.1 k) (p::l)).length=placeK lt l k+1:=by rw [b1,if_pos hp];rfl
    simp only [e,e6];exact ih (by rw [e] at h;simpa using h)
  · have e:(List.takeWhile (λp:K×V=>lt p.1 k) (p::l)).length=0:=by rw [b1,if_neg hp];rfl
    simp only [e,e5];simpa using hp
theorem qN (l:List (K×V)) (k:K) (v:V):insL lt l k v=l.take (placeK lt l k)++(k,v)::(if (l[placeK lt l k]?).map (·.1)=X k then l.drop (placeK lt l k+1) else l.drop (placeK lt l k)):=by
 induction l with
 |nil=>rfl
 |cons p l ih=>
  unfold insL;by_cases hp:lt p.1 k=true
  · have e:placeK lt (p::l) k=placeK lt l k+1:=by unfold placeK;rw [b1,if_pos hp];rfl
    rw [if_pos hp,e,ih];rfl
  · have e:placeK lt (p::l) k=0:=by unfold placeK;rw [b1,if_neg hp];rfl
    rw [if_neg hp,e];by_cases hk:p.1=k
    · rw [if_pos hk,if_pos (by simp [hk])];rfl
    · rw [if_neg hk,if_neg (by simpa using hk)];rfl
theorem eH (T:Tot lt) {l:List (K×V)} (h:aw lt l) (k:K):findK l k=(l[placeK lt l k]?).bind λp=>if p.1=k then X p.2 else Y:=by
 induction l with
 |nil=>rfl
 |cons p l ih=>
  obtain ⟨c,d⟩:=List.pairwise_cons.1 h;unfold findK;rw [cx];by_cases hp:lt p.1 k=true
  · have e:placeK lt (p::l) k=placeK lt l k+1:=by unfold placeK;rw [b1,if_pos hp];rfl
    have f:p.1≠k:=by intro e;rw [e,T.irr] at hp;cases hp
    rw [e];simp only [f,decide_false,List.getElem?_cons_succ];exact ih d
  · have e:placeK lt (p::l) k=0:=by unfold placeK;rw [b1,if_neg hp];rfl
    rw [e];by_cases hk:p.1=k
    · simp [hk]
    · simp only [hk,decide_false,List.getElem?_cons_zero,Option.bind_some,if_false];have:l.find? (λp=>decide (p.1=k))=Y:=by rw [b9];intro q g b;simp at b;have:=c q g;rw [b] at this;exact hp this
      rw [this];rfl
theorem eu (T:Tot lt) {l:List (K×V)} (j:aw lt l) (k:K) (v:V) (q:K×V):q∈insL lt l k v↔q=(k,v)∨q∈l/\q.1≠k:=by
 induction l with
 |nil=>simp [insL]
 |cons p l ih=>
  obtain ⟨d,f⟩:=List.pairwise_cons.1 j;have ih:=ih f;unfold insL;by_cases hp:lt p.1 k=true
  · have g:p.1≠k:=by intro e;rw [e,T.irr] at hp;cases hp
    rw [if_pos hp,bw,ih,bw];constructor
    · rintro (rfl|rfl|⟨h,b⟩)
      · exact .inr ⟨.inl rfl,g⟩
      · exact .inl rfl
      · exact .inr ⟨.inr h,b⟩
    · rintro (rfl|⟨rfl|h,b⟩)
      · exact .inr (.inl rfl)
      · exact .inl rfl
      · exact .inr (.inr ⟨h,b⟩)
  · have c:∀q∈l,q.1≠k:=λq i e=>hp (by have:=d q i;rw [e] at this;exact this);rw [if_neg hp];by_cases hk:p.1=k
    · rw [if_pos hk,bw,bw];constructor
      · rintro (h|h)
        · exact .inl h
        · exact .inr ⟨.inr h,c q h⟩
      · rintro (h|⟨rfl|h,b⟩)
        · exact .inl h
        · exact absurd hk b
        · exact .inr h
    · rw [if_neg hk,bw,bw];constructor
      · rintro (h|rfl|h)
        · exact .inl h
        · exact .inr ⟨.inl rfl,hk⟩
        · exact .inr ⟨.inr h,c q h⟩
      · rintro (h|⟨h,b⟩)
        · exact .inl h
        · exact .inr h
theorem cM (T:Tot lt) {l:List (K×V)} (f:aw lt l) (k:K) (v:V):aw lt (insL lt l k v):=by
 induction l with
 |nil=>exact List.pairwise_singleton _ _
 |cons p l ih=>
  obtain ⟨c,d⟩:=List.pairwise_cons.1 f;unfold insL;by_cases hp:lt p.1 k=true
  · rw [if_pos hp];refine List.pairwise_cons.2 ⟨λq b=>?_,ih d⟩;rcases (eu T d k v q).1 b with rfl|⟨h,_⟩
    · exact hp
    · exact c q h
  · rw [if_neg hp];by_cases hk:p.1=k
    · rw [if_pos hk];exact List.pairwise_cons.2 ⟨λq b=>by have:=c q b;rw [hk] at this;exact this,d⟩
    · rw [if_neg hk];have e:lt k p.1=true:=by rcases T.tot _ _ hk with h|h;exact absurd h hp;exact h
      exact List.pairwise_cons.2 ⟨λq b=>by
       rcases List.mem_cons.1 b with rfl|b
       · exact e
       · exact T.tr _ _ _ e (c q b),f⟩
theorem nX (T:Tot lt) {l:List (K×V)} (c:aw lt l):(l.map (·.1)).Nodup:=by
 rw [List.Nodup,b4];exact c.imp λ{a b} h e=>by rw [e,T.irr] at h;cases h
theorem xx (T:Tot lt) {l:List (K×V)} (d:aw lt l) (k:K) (v:V):(l.filter (λp=> !decide (p.1=k))++[(k,v)]).Perm (insL lt l k v):=by
 have i:(insL lt l k v).Nodup:=(cM T d k v).imp λ{a b} h e=>by rw [e,T.irr] at h;cases h
 have g:l.Nodup:=d.imp λ{a b} h e=>by rw [e,T.irr] at h;cases h
 refine (ej ?_ i).2 λq=>?_
 · rw [List.nodup_append];refine ⟨g.sublist fn,by simp,λa c b f e=>?_⟩;rw [fs] at f;rw [cg] at c;rw [e,f] at c;simp at c
 · rw [eu T d,List.mem_append,cg,fs];simp only [cb,decide_eq_false_iff_not];constructor
   · rintro (h|h)
     · exact .inr h
     · exact .inl h
   · rintro (h|h)
     · exact .inr h
     · exact .inl h
theorem cR (T:Tot lt) {l:List (K×V)} (c:aw lt l) {k:K} {v:V}:findK l k=X v↔(k,v)∈l:=by
 have b:=nX T c;clear c;induction l with
 |nil=>simp [findK]
 |cons p l ih=>
  rw [b8,List.nodup_cons] at b;have ih:=ih b.2;unfold findK at ih ⊢;rw [cx];by_cases e:p.1=k
  · simp only [e,decide_true,Option.map_some,bv,bw];constructor
    · rintro rfl;exact .inl (by rw [<- e])
    · rintro (h|h)
      · rw [<- h]
      · exact absurd (List.mem_map.2 ⟨_,h,e.symm⟩) b.1
  · simp only [e,decide_false,bw];refine ih.trans ⟨.inr,?_⟩;rintro (h|h)
    · exact absurd (by rw [<- h]) e
    · exact h
theorem vr {l:List (K×V)} {k:K}:findK l k=Y↔∀v,(k,v)∉l:=by
 unfold findK;rw [Option.map_eq_none_iff,b9];constructor
 · intro h v b;exact h _ b (by simp)
 · intro h p c e;simp at e;exact h p.2 (by rw [<- e];exact c)
theorem lH (T:Tot lt) {l:List (K×V)} (b:aw lt l) (k:K) (v:V) (j:K):findK (insL lt l k v) j=if j=k then X v else findK l j:=by
 by_cases e:j=k
 · rw [if_pos e,cR T (cM T b k v),eu T b];exact .inl (by rw [e])
 · rw [if_neg e];cases h:findK l j with
   |none=>
    rw [vr] at h ⊢;intro x d;rcases (eu T b k v _).1 d with c|⟨c,_⟩
    · injection c with c;exact e c
    · exact h x c
   |some x=>rw [cR T b] at h;rw [cR T (cM T b k v),eu T b];exact .inr ⟨h,e⟩
end
abbrev RK:=Int×Int
abbrev PK:=RK×RK
def ltRK (a b:RK):Bool:=decide (a.1<b.1)||(decide (a.1=b.1)&&decide (a.2<b.2))
def ltPK (x y:PK):Bool:=if x.1=y.1 then ltRK x.2 y.2 else ltRK x.1 y.1
theorem fd {a b:RK}:ltRK a b=true↔a.1<b.1∨a.1=b.1/\a.2<b.2:=by unfold ltRK;simp
theorem aK:Tot ltRK:=by
 refine ⟨λa=>?_,λa b c f g=>?_,λa b h=>?_⟩
 · cases h:ltRK a a
   · rfl
   · rw [fd] at h;omega
 · rw [fd] at *;omega
 · rw [fd,fd];have:a.1≠b.1∨a.2≠b.2:=by
    rcases Classical.em (a.1=b.1) with e|e
    · exact .inr λd=>h (e0 e d)
    · exact .inl e
   omega
theorem dt:Tot ltPK:=by
 refine ⟨λa=>?_,λa b c g f=>?_,λa b h=>?_⟩
 · unfold ltPK;rw [if_pos rfl];exact aK.irr _
 · unfold ltPK at *;by_cases e1:a.1=b.1
   · rw [if_pos e1] at g;by_cases d:b.1=c.1
     · rw [if_pos d] at f;rw [if_pos (e1.trans d)];exact aK.tr _ _ _ g f
     · rw [if_neg d] at f;rw [if_neg (e1 ▸ d),e1];exact f
   · rw [if_neg e1] at g;by_cases d:b.1=c.1
     · rw [if_neg (d ▸ e1), <- d];exact g
     · rw [if_neg d] at f;have i:=aK.tr _ _ _ g f;rw [if_neg (by intro e;rw [e,aK.irr] at i;cases i)];exact i
 · unfold ltPK;by_cases e:a.1=b.1
   · rw [if_pos e,if_pos e.symm];exact aK.tot _ _ λd=>h (e0 e d)
   · rw [if_neg e,if_neg (Ne.symm e)];exact aK.tot _ _ e
structure aq where
 vs:List (RK×(Int×az))
 ds:List (RK×Int)
 ps:List (PK×(Int×Bool))
def cat0:aq:=⟨[],[],[]⟩
structure aq.Ok (d:aq):Prop where
 vs:aw ltRK d.vs
 ds:aw ltRK d.ds
 ps:aw ltPK d.ps
 apart:∀p∈d.ps,ltRK p.1.1 p.1.2=true
def aL (b c:Bool) (f e:Int) (d:Nat):Int:=
 if b&&c then 22 else if b&&decide (e<=f) then 30 else if !b&&decide (5000<=d) then 2 else 0
def putC (d:aq) (k:RK) (n:Int) (r:az):aq×Int:=
 if wrongR r≠0 then (d,11) else
 let e:=match findK d.vs k with
  |some (n',r')=>aL true (decide (n'=n)&&decide (r'=r)) n' n d.vs.length
  |none=>aL false false 0 n d.vs.length
 if e=0 then ({d with vs:=insL ltRK d.vs k (n,r)},0) else (d,e)
def dropC (d:aq) (k:RK) (n:Int):aq×Int:=
 let e:=match findK d.ds k with
  |some n'=>aL true (decide (n'=n)) n' n d.ds.length
  |none=>aL false false 0 n d.ds.length
 if e=0 then ({d with ds:=insL ltRK d.ds k n},0) else (d,e)
def pairK (a b:RK):PK:=if ltRK b a then (b,a) else (a,b)
def decideC (d:aq) (a b:RK) (n:Int) (j:Bool):aq×Int:=
 if a=b then (d,1) else
 let e:=match findK d.ps (pairK a b) with
  |some (n',j')=>aL true (decide (n'=n)&&decide (j'=j)) n' n d.ps.length
  |none=>aL false false 0 n d.ps.length
 if e=0 then ({d with ps:=insL ltPK d.ps (pairK a b) (n,j)},0) else (d,e)
def thereC (d:aq):List (RK×(Int×az)):=d.vs.filter λp=>match findK d.ds p.1 with
 |some n=>decide (n<=p.2.1)
 |none=>true
def atC (l:List (RK×(Int×az))) (k:RK):Option Nat:=l.findIdx? λp=>decide (p.1=k)
def keyC (l:List (RK×(Int×az))) (i:Nat):RK:=(l.getD i ((0,0),(0,⟨0,0,[]⟩))).1
def jP (ps:List (PK×(Int×Bool))) (l:List (RK×(Int×az))) (set:List Nat) (x y:Nat):Bool:=
 ps.any λp=> !p.2.2&&match atC l p.1.1,atC l p.1.2 with
  |some a,X b=>(decide (set.getD a 0=x)&&decide (set.getD b 0=y))||(decide (set.getD a 0=y)&&decide (set.getD b 0=x))
  |_,_=>false
def gj (ps:List (PK×(Int×Bool))) (l:List (RK×(Int×az))) (set:List Nat) (a b:Nat):List Nat:=
 let x:=set.getD a 0
 let y:=set.getD b 0
 if x=y then set else if jP ps l set x y then set else set.map λz=>if z=x∨z=y then min x y else z
def joinedC (ps:List (PK×(Int×Bool))) (l:List (RK×(Int×az))):List (Nat×Nat):=ps.filterMap λp=>
 if p.2.2 then match atC l p.1.1,atC l p.1.2 with
  |some a,X b=>X (a,b)
  |_,_=>Y
 else Y
def setsC (d:aq):List Nat:=
 (joinedC d.ps (thereC d)++pairsR ((thereC d).map λp=>p.2.2)).foldl (λset q=>gj d.ps (thereC d) set q.1 q.2) (bO (thereC d).length)
def sameC (d:aq):List (RK×RK):=(bO (thereC d).length).map λi=>(keyC (thereC d) i,keyC (thereC d) ((setsC d).getD i 0))
def de (d:aq):List RK:=((sameC d).filter λp=>decide (p.1=p.2)).map (·.1)
def titleC (d:aq) (k:RK):Option RK:=findK (sameC d) k
def membersC (d:aq) (t:RK):List RK:=((sameC d).filter λp=>decide (p.2=t)).map (·.1)
end
section
open Go.RowKit
def rec0:az:=⟨0,0,[]⟩
theorem nh (l:List az) (i k:Nat):(i,k)∈pairsR l↔i<k/\k<l.length/\sy (l.getD i rec0) (l.getD k rec0)=true:=by
 unfold pairsR fG;simp only [List.mem_flatMap,List.mem_range,List.mem_map,cg,b2,decide_eq_true_eq,cm,rec0];constructor
 · rintro ⟨a,g,b,⟨f,c,d⟩,rfl,rfl⟩;exact ⟨c,f,d⟩
 · rintro ⟨c,d,e⟩;exact ⟨i,by omega,k,⟨d,c,e⟩,rfl,rfl⟩
def ltNN (a b:Nat×Nat):Bool:=decide (a.1<b.1)||(decide (a.1=b.1)&&decide (a.2<b.2))
theorem iZ {a b:Nat×Nat}:ltNN a b=true↔a.1<b.1∨a.1=b.1/\a.2<b.2:=by unfold ltNN;simp
theorem oA (l:List az):(pairsR l).Pairwise λa b=>ltNN a b=true:=by
 unfold pairsR;rw [List.flatMap,List.pairwise_flatten];constructor
 · intro x e;obtain ⟨i,_,rfl⟩:=List.mem_map.1 e;unfold fG;rw [b4];refine (List.Pairwise.filter _ List.pairwise_lt_range).imp ?_;intro a b h;rw [iZ];exact .inr ⟨rfl,h⟩
 · rw [b4];refine List.pairwise_lt_range.imp ?_;intro a b h x e y f;unfold fG at e f;obtain ⟨c,_,rfl⟩:=List.mem_map.1 e;obtain ⟨d,_,rfl⟩:=List.mem_map.1 f;rw [iZ];exact .inl h
theorem uR (l:List az):(pairsR l).length<=l.length * l.length:=by
 unfold pairsR;rw [List.length_flatMap];have h:∀(m:List Nat),(m.map λi=>(fG l l.length i).length).sum<=m.length * l.length:=by
  intro m;induction m with
  |nil=>simp
  |cons a m ih=>
   have:(fG l l.length a).length<=l.length:=by unfold fG;rw [cv];exact cy (cc _ _) (by simp)
   simp only [b8,List.sum_cons,c7,Nat.add_mul];omega
 simpa using h (bO l.length)
def cameR (l:List az) (n:Nat) (b:List Bs) (p:Nat×Nat):Bool:=
 decide (p.1<p.2)&&((decide (p.2<n)&&(rawR (l.getD p.1 rec0).fields).any (rawR (l.getD p.2 rec0).fields).contains)||(decide (p.2=n)&&b.any (rawR (l.getD p.1 rec0).fields).contains))
theorem tj (l:List az) (o:List (Nat×Nat)) (h:∀p,p∈o↔cameR l l.length [] p=true/\40<=pointsR (l.getD p.1 rec0) (l.getD p.2 rec0)) (p:Nat×Nat):p∈o↔p∈pairsR l:=by
 rw [h,show p=(p.1,p.2) from rfl,nh];unfold cameR sy;simp;constructor
 · rintro ⟨⟨b,c,d⟩,e⟩;exact ⟨b,c,d,e⟩
 · rintro ⟨b,c,d,e⟩;exact ⟨⟨b,c,d⟩,e⟩
end
section
open Go.RowKit
abbrev VL:=List (RK×(Int×az))
theorem bQ {L:VL} {i:Nat} (h:i<L.length):keyC L i=L[i].1:=by
 unfold keyC;rw [ch,eQ h];rfl
section
variable {L:VL}
theorem iw (d:aw ltRK L) {i j:Nat} (c:i<j) (b:j<L.length):ltRK (keyC L i) (keyC L j)=true:=by
 rw [bQ (show i<L.length by omega),bQ b];exact List.pairwise_iff_getElem.1 d i j (by omega) b c
theorem sK (c:aw ltRK L) {i j:Nat} (d:i<L.length) (e:j<L.length):ltRK (keyC L i) (keyC L j)=true↔i<j:=by
 constructor
 · intro h;rcases Nat.lt_trichotomy i j with b|b|b
   · exact b
   · subst b;rw [aK.irr] at h;cases h
   · rw [aK.asym (iw c b d)] at h;cases h
 · exact λh=>iw c h e
theorem cL (c:aw ltRK L) {i j:Nat} (d:i<L.length) (e:j<L.length) (h:keyC L i=keyC L j):i=j:=by
 rcases Nat.lt_trichotomy i j with b|b|b
 · have:=iw c b e;rw [h,aK.irr] at this;cases this
 · exact b
 · have:=iw c b d;rw [h,aK.irr] at this;cases this
theorem at_some {k:RK} {i:Nat} (h:atC L k=X i):i<L.length/\keyC L i=k:=by
 unfold atC at h;rw [List.findIdx?_eq_some_iff_getElem] at h;obtain ⟨b,c,_⟩:=h;exact ⟨b,by rw [bQ b];simpa using c⟩
theorem at_none {k:RK} (h:atC L k=Y) (i:Nat) (b:i<L.length):keyC L i≠k:=by
 unfold atC at h;rw [List.findIdx?_eq_none_iff] at h;have:=h L[i] (c9 b);rw [bQ b];simpa using this
theorem eU (c:aw ltRK L) {i:Nat} (b:i<L.length):atC L (keyC L i)=X i:=by
 cases h:atC L (keyC L i) with
 |none=>exact absurd rfl (at_none h i b)
 |some j=>rw [cL c (at_some h).1 b (at_some h).2]
end
structure dK (n:Nat) (set:List Nat):Prop where
 len:set.length=n
 le:∀i,i<n->set.getD i 0<=i
 rep:∀i,i<n->set.getD (set.getD i 0) 0=set.getD i 0
theorem dK.range (n:Nat):dK n (bO n):=by
 have h:∀i,i<n->(bO n).getD i 0=i:=λi b=>by simp [ch,b]
 exact ⟨by simp,λi b=>by rw [h i b];exact eg _,λi b=>by rw [h i b,h i b]⟩
theorem dK.lt {n:Nat} {set:List Nat} (h:dK n set) {i:Nat} (b:i<n):set.getD i 0<n:=Nat.lt_of_le_of_lt (h.le i b) b
def mergeS (set:List Nat) (x y:Nat):List Nat:=set.map λz=>if z=x∨z=y then min x y else z
theorem cB {set:List Nat} {x y i:Nat} (b:i<set.length):(mergeS set x y).getD i 0=if set.getD i 0=x∨set.getD i 0=y then min x y else set.getD i 0:=by
 unfold mergeS;simp [ch,eQ b]
theorem sw (set:List Nat) (x y:Nat):mergeS set x y=mergeS set y x:=by
 unfold mergeS;refine List.map_congr_left λz _=>?_;by_cases h:z=x∨z=y
 · rw [if_pos h,if_pos h.symm,Nat.min_comm]
 · rw [if_neg h,if_neg (λb=>h b.symm)]
theorem dK.merge {n:Nat} {set:List Nat} (h:dK n set) {x y:Nat} (k:x<n) (l:y<n) (g:set.getD x 0=x) (j:set.getD y 0=y):dK n (mergeS set x y):=by
 refine ⟨by unfold mergeS;rw [cv,h.len],λi c=>?_,λi c=>?_⟩
 · rw [cB (by rw [h.len];exact c)];have:=h.le i c;split
   · rename_i b;rcases b with b|b<;>omega
   · exact this
 · have e:=cB (set:=set) (x:=x) (y:=y) (i:=i) (by rw [h.len];exact c);rw [e];by_cases b:set.getD i 0=x∨set.getD i 0=y
   · rw [if_pos b];have f:min x y<n:=by omega
     rw [cB (by rw [h.len];exact f)];rcases Nat.le_total x y with d|d
     · rw [Nat.min_eq_left d,g,if_pos (.inl rfl)]
     · rw [Nat.min_eq_right d,j,if_pos (.inr rfl)]
   · rw [if_neg b,cB (by rw [h.len];exact h.lt c),h.rep i c,if_neg b]
theorem pC (ps:List (PK×(Int×Bool))) (l:VL) (set:List Nat) (a b:Nat):gj ps l set a b=if set.getD a 0=set.getD b 0 then set else if jP ps l set (set.getD a 0) (set.getD b 0) then set else mergeS set (set.getD a 0) (set.getD b 0):=rfl
theorem dK.unite {n:Nat} {set:List Nat} (h:dK n set) (ps:List (PK×(Int×Bool))) (l:VL) {a b:Nat} (c:a<n) (d:b<n):dK n (gj ps l set a b):=by
 rw [pC];split
 · exact h
 · split
   · exact h
   · exact h.merge (h.lt c) (h.lt d) (h.rep a c) (h.rep b d)
def aV (L:VL) (set:List Nat) (t:Nat):List RK:=((bO L.length).filter λi=>decide (set.getD i 0=t)).map (keyC L)
theorem aX {L:VL} {set:List Nat} {t:Nat} {k:RK}:k∈aV L set t↔∃i,i<L.length/\set.getD i 0=t/\keyC L i=k:=by
 unfold aV;simp only [List.mem_map,cg,List.mem_range,decide_eq_true_eq,and_assoc]
theorem jh {L:VL} (k:aw ltRK L) (set:List Nat) (t:Nat):(aV L set t).Pairwise λa b=>ltRK a b=true:=by
 unfold aV;rw [b4];have d:((bO L.length).filter λi=>decide (set.getD i 0=t)).Pairwise (λi j=>i<j/\j<L.length):=by
  have e:(bO L.length).Pairwise (λi j=>i<j/\j<L.length):=by rw [List.pairwise_iff_getElem];intro i j f c g;simp at f c;simp;exact ⟨g,c⟩
  exact e.filter _
 exact d.imp λ{i j} h=>iw k h.1 h.2
theorem gH {L:VL} (c:aw ltRK L) (set:List Nat) (t:Nat):(aV L set t).Nodup:=(jh c set t).imp λ{a b} h e=>by rw [e,aK.irr] at h;cases h
theorem jJ (L:VL) (set:List Nat) (t:Nat):(aV L set t).length<=L.length:=by
 unfold aV;rw [cv];exact cy (cc _ _) (by simp)
theorem lR {L:VL} {set:List Nat} {t:Nat} (b:t<L.length) (c:set.getD t 0=t):aV L set t≠[]:=λe=>by
 have:=(aX (L:=L) (set:=set)).2 ⟨t,b,c,rfl⟩;rw [e] at this;cases this
theorem rn {L:VL} {set:List Nat} (c:set.length=L.length) {x y t:Nat} (e:t≠x) (f:t≠y):aV L (mergeS set x y) t=aV L set t:=by
 unfold aV;congr 1
 refine c5 λi b=>?_;rw [cB (by rw [c];simpa using b)];have d:min x y≠t:=by omega
 split
 · rename_i h;rw [decide_eq_false d];symm;rw [decide_eq_false_iff_not];omega
 · rfl
theorem vL {L:VL} (g:aw ltRK L) {set:List Nat} (v:set.length=L.length) {x y:Nat} (u:x≠y) {l ys:List RK} (m:l.Perm (aV L set x)) (n:ys.Perm (aV L set y)):
 (l++ys).Perm (aV L (mergeS set x y) (min x y)):=by
 refine (m.append n).trans ?_;refine (ej ?_ (gH g _ _)).2 λk=>?_
 · rw [List.nodup_append];refine ⟨gH g _ _,gH g _ _,λa r b s e=>?_⟩;obtain ⟨i,f,c,d⟩:=aX.1 r;obtain ⟨j,t,p,q⟩:=aX.1 s;have:=cL g f t (by rw [d,q,e]);subst this;exact u (c.symm.trans p)
 · rw [List.mem_append,aX,aX,aX];constructor
   · rintro (⟨i,f,c,d⟩|⟨i,f,c,d⟩)
     · exact ⟨i,f,by rw [cB (by omega),if_pos (.inl c)],d⟩
     · exact ⟨i,f,by rw [cB (by omega),if_pos (.inr c)],d⟩
   · rintro ⟨i,f,c,d⟩;rw [cB (by omega)] at c;by_cases h:set.getD i 0=x∨set.getD i 0=y
     · exact h.imp (λh=>⟨i,f,h,d⟩) (λh=>⟨i,f,h,d⟩)
     · rw [if_neg h] at c;exact absurd (show set.getD i 0=x∨set.getD i 0=y by omega) h
theorem so (a b:RK) (h:a≠b):pairK a b=pairK b a:=by
 unfold pairK;rcases aK.tot a b h with c|c
 · rw [if_neg (by rw [aK.asym c];decide),if_pos c]
 · rw [if_pos c,if_neg (by rw [aK.asym c];decide)]
theorem wZ {p:PK} (h:ltRK p.1 p.2=true):pairK p.1 p.2=p/\pairK p.2 p.1=p:=by
 have b:pairK p.1 p.2=p:=by unfold pairK;rw [if_neg (by rw [aK.asym h];decide)]
 refine ⟨b,?_⟩;rw [so _ _ (λe=>by rw [e,aK.irr] at h;cases h)];exact b
def iE (ps:List (PK×(Int×Bool))) (b ys:List RK):Bool:=b.any λr=>ys.any λs=>match findK ps (pairK r s) with
 |some (_,false)=>true
 |_=>false
theorem iC {ps:List (PK×(Int×Bool))} {d ys:List RK}:iE ps d ys=true↔∃r∈d,∃s∈ys,∃n,findK ps (pairK r s)=X (n,false):=by
 unfold iE;simp only [cs];constructor
 · rintro ⟨r,b,s,c,h⟩;refine ⟨r,b,s,c,?_⟩;split at h
   · exact ⟨_,by assumption⟩
   · cases h
 · rintro ⟨r,b,s,c,n,h⟩;exact ⟨r,b,s,c,by rw [h]⟩
theorem yj {ps:List (PK×(Int×Bool))} (v:aw ltPK ps) (E:∀p∈ps,ltRK p.1.1 p.1.2=true) {L:VL} (l:aw ltRK L) {set:List Nat} {x y:Nat} {C ys:List RK} (m:C.Perm (aV L set x)) (q:ys.Perm (aV L set y)):
 jP ps L set x y=iE ps C ys:=by
 rw [dy,iC];unfold jP;rw [cs];constructor
 · rintro ⟨p,A,h⟩;rw [b2] at h;obtain ⟨f,h⟩:=h;have f:p.2.2=false:=by simpa using f
   obtain ⟨H,I⟩:=wZ (E p A);have k:findK ps p.1=X (p.2.1,false):=by rw [cR dt v, <- f];exact A
   split at h
   · rename_i a b d e;have d:=at_some d;have e:=at_some e;simp only [dx,b2,decide_eq_true_eq] at h;rcases h with ⟨c,g⟩|⟨c,g⟩
     · exact ⟨p.1.1,m.mem_iff.2 (aX.2 ⟨a,d.1,c,d.2⟩),p.1.2,q.mem_iff.2 (aX.2 ⟨b,e.1,g,e.2⟩),p.2.1,by rw [H];exact k⟩
     · exact ⟨p.1.2,m.mem_iff.2 (aX.2 ⟨b,e.1,g,e.2⟩),p.1.1,q.mem_iff.2 (aX.2 ⟨a,d.1,c,d.2⟩),p.2.1,by rw [I];exact k⟩
   · cases h
 · rintro ⟨r,F,s,G,n,k⟩;obtain ⟨i,u,c,g⟩:=aX.1 (m.mem_iff.1 F);obtain ⟨j,f,t,D⟩:=aX.1 (q.mem_iff.1 G);rw [cR dt v] at k;refine ⟨_,k,?_⟩;subst g;subst D;unfold pairK;split
   · dsimp only;rw [eU l u,eU l f];simp only [c,t];simp
   · dsimp only;rw [eU l u,eU l f];simp only [c,t];simp
theorem kw (d:aq):sameC d=(bO (thereC d).length).map λi=>(keyC (thereC d) i,keyC (thereC d) ((setsC d).getD i 0)):=rfl
theorem qR {n:Nat} (ps:List (PK×(Int×Bool))) (l:VL):∀(b:List (Nat×Nat)) (set:List Nat),dK n set->(∀q∈b,q.1<n/\q.2<n)->dK n (b.foldl (λset q=>gj ps l set q.1 q.2) set)
 |[],_,h,_=>h
 |q::b,_,h,hq=>qR ps l b _ (h.unite ps l (hq q bA).1 (hq q bA).2) λp c=>hq p (ce _ c)
theorem vg {ps:List (PK×(Int×Bool))} {l:VL}:∀q∈joinedC ps l,q.1<l.length/\q.2<l.length:=by
 intro q c;unfold joinedC at c;obtain ⟨p,_,h⟩:=List.mem_filterMap.1 c;split at h
 · split at h
   · rename_i a b d e;injection h with h
     subst h;exact ⟨(at_some d).1,(at_some e).1⟩
   · cases h
 · cases h
theorem qh {l:List az}:∀q∈pairsR l,q.1<l.length/\q.2<l.length:=by
 intro q b;have:=(nh l q.1 q.2).1 b;exact ⟨by omega,this.2.1⟩
theorem kr (d:aq):dK (thereC d).length (setsC d):=by
 unfold setsC;refine qR _ _ _ _ (dK.range _) λq b=>?_;rcases List.mem_append.1 b with h|h
 · exact vg q h
 · have:=qh q h;simpa using this
theorem cJ {d:aq} (h:d.Ok):aw ltRK (thereC d):=h.vs.filter _
theorem mS {d:aq} (h:d.Ok):de d=((bO (thereC d).length).filter λi=>decide ((setsC d).getD i 0=i)).map (keyC (thereC d)):=by
 unfold de;rw [kw,List.filter_map,List.map_map];congr 1
 refine c5 λi b=>?_;have b:i<(thereC d).length:=by simpa using b
 simp only [Function.comp];rw [dy,decide_eq_true_eq,decide_eq_true_eq];exact ⟨λe=>(cL (cJ h) b ((kr d).lt b) e).symm,λe=>by rw [e]⟩
theorem kN {d:aq} (h:d.Ok) (k:RK):titleC d k=(atC (thereC d) k).map λi=>keyC (thereC d) ((setsC d).getD i 0):=by
 unfold titleC findK;rw [kw];cases c:atC (thereC d) k with
 |none=>
  have:(List.find? (λp:RK×RK=>decide (p.1=k)) ((bO (thereC d).length).map λi=>(keyC (thereC d) i,keyC (thereC d) ((setsC d).getD i 0))))=Y:=by rw [b9];intro p m;obtain ⟨i,e,rfl⟩:=List.mem_map.1 m;simpa using at_none c i (by simpa using e)
  rw [this];rfl
 |some i=>
  obtain ⟨e,l⟩:=at_some c;have g:findK ((bO (thereC d).length).map λi=>(keyC (thereC d) i,keyC (thereC d) ((setsC d).getD i 0))) k=X (keyC (thereC d) ((setsC d).getD i 0)):=by
   have n:aw ltRK ((bO (thereC d).length).map λi=>(keyC (thereC d) i,keyC (thereC d) ((setsC d).getD i 0))):=by unfold aw;rw [b4];rw [List.pairwise_iff_getElem];intro a b c f j;simp at c f;simp only [List.getElem_range];exact iw (cJ h) j f
   rw [cR aK n];exact List.mem_map.2 ⟨i,by simpa using e,by rw [l]⟩
  unfold findK at g;rw [g];rfl
theorem qo {d:aq} (h:d.Ok) {t:Nat} (c:t<(thereC d).length):membersC d (keyC (thereC d) t)=aV (thereC d) (setsC d) t:=by
 unfold membersC aV;rw [kw,List.filter_map,List.map_map];congr 1
 refine c5 λi b=>?_;have b:i<(thereC d).length:=by simpa using b
 simp only [Function.comp];rw [dy,decide_eq_true_eq,decide_eq_true_eq];exact ⟨λe=>cL (cJ h) ((kr d).lt b) c e,λe=>by rw [e]⟩
theorem oG {d:aq} {k:RK} (c:∀t,t<(thereC d).length->(setsC d).getD t 0=t->keyC (thereC d) t≠k):membersC d k=[]:=by
 unfold membersC;rw [List.map_eq_nil_iff,List.filter_eq_nil_iff,kw];intro p e;obtain ⟨i,b,rfl⟩:=List.mem_map.1 e;have b:i<(thereC d).length:=by simpa using b
 simpa using c _ ((kr d).lt b) ((kr d).rep i b)
end
section
open Go.RowKit Go.Maps
section
variable {K:Type} [DecidableEq K]
theorem dh (p:K×bc) (l:List (K×bc)) (k:K):lookL (p::l) k=if p.1=k then X p.2 else lookL l k:=by
 unfold lookL;rw [cx];by_cases h:p.1=k
 · rw [if_pos h];simp [h]
 · rw [if_neg h];simp [h]
theorem lq (l:List (K×bc)) (k j:K):lookL (co l k) j=if j=k then Y else lookL l j:=by
 induction l with
 |nil=>unfold co lookL;simp
 |cons p l ih=>
  unfold co at ih ⊢;rw [da];by_cases h:p.1=k
  · rw [if_neg (by simp [h]),ih,dh];by_cases h2:j=k
    · rw [if_pos h2,if_pos h2]
    · rw [if_neg h2,if_neg h2,if_neg (λe=>h2 (e.symm.trans h))]
  · rw [if_pos (by simp [h]),dh,dh,ih];by_cases h2:j=k
    · rw [if_pos h2,if_pos h2,if_neg (λe=>h (e.trans h2))]
    · rw [if_neg h2,if_neg h2]
theorem xn (l m:List (K×bc)) (k:K):lookL (l++m) k=(lookL l k).or (lookL m k):=by
 induction l with
 |nil=>simp [lookL]
 |cons p l ih=> rw [dc,dh,dh,ih];split<;>simp
theorem dl (l:List (K×bc)) (k:K) (v:bc) (j:K):lookL (putL l k v) j=if j=k then X v else lookL l j:=by
 unfold putL;rw [xn,lq,dh];by_cases h:j=k
 · rw [if_pos h,if_pos h,if_pos h.symm];rfl
 · rw [if_neg h,if_neg h,if_neg (λe=>h e.symm)];simp [lookL]
theorem qu {l:List (K×bc)} {k:K}:(lookL l k).isSome=true↔k∈l.map (·.1):=by
 induction l with
 |nil=>simp [lookL]
 |cons p l ih=>
  rw [dh,b8,bw];by_cases h:p.1=k
  · simp [h]
  · rw [if_neg h,ih];exact ⟨.inr,λb=>b.resolve_left (λe=>h e.symm)⟩
theorem zK (l:List (K×bc)) (k:K):(co l k).length<=l.length:=cc _ _
theorem yI (l:List (K×bc)) (k:K) (v:bc):(putL l k v).length<=l.length+1:=by
 unfold putL;rw [b5];have:=zK l k;simp;omega
end
end
section
open Go.RowKit
theorem aa {w:bb} {b:Nat} {c:Array bc} {t:b7} (h:w.heap[b]? =X (av c t (0,0))) (i:Nat):w.cell? ⟨b,i,Y⟩=c[i]? :=by simp [World.cell?,h]
theorem ab {w:bb} {b:Nat} {c:Array bc} {t:b7} (h:w.heap[b]? =X (av c t (0,0))) (i:Nat):w.frozen? ⟨b,i,Y⟩=false:=by simp [World.frozen?,h]
theorem ae {w:bb} {b:Nat} {o:Obj} (h:w.heap[b]? =X o):b<w.heap.size:=(Array.getElem?_eq_some_iff.1 h).1
theorem am {w:bb} {b:Nat} {c:Array bc} {t:b7} (h:w.heap[b]? =X (av c t (0,0))) (i:Nat) (u:bc):(w.setCell ⟨b,i,Y⟩ u).heap[b]? =X (av (c.setIfInBounds i u) t (0,0)):=by
 simp only [World.setCell,Array.getElem?_modify,if_true,h];rfl
theorem aM {w:bb} {B:Nat} {e:b7} {k n:Nat} {v:bc} {c:List bc} (h:w.ownsRow B e k v n c):∃a b,v=aC a n b:=by
 rcases h.2 with ⟨rfl,rfl⟩|⟨g,b,d,rfl,_⟩
 · exact ⟨_,_,rfl⟩
 · exact ⟨_,_,rfl⟩
theorem kZ {w:bb} {B:Nat} {e:b7} {k n:Nat} {v:bc} {c:List bc} (h:w.ownsRow B e k v n c):∀j,v.ownBlock=X j->j<w.heap.size:=λj b=>(h.lt j b).2
theorem ah {w w':bb} {B:Nat} {e:b7} {k:Nat} {v:bc} {n:Nat} {c:List bc} (h:w.ownsRow B e k v n c) (l:∀g,v.ownBlock=X g->w'.heap[g]? =w.heap[g]?):w'.ownsRow B e k v n c:=by
 refine ⟨h.1,?_⟩;rcases h.2 with m|⟨g,d,f,b,i,j,p⟩
 · exact .inl m
 · exact .inr ⟨g,d,f,b,i,by rw [l g (by rw [b];simp [Value.ownBlock])];exact j,p⟩
theorem bu {w:bb} {B b:Nat} {e:b7} {k:Nat} {v:bc} {n:Nat} {c:List bc} (h:w.ownsRow B e k v n c) (i:b<=B):w.ownsRow b e k v n c:=by
 refine ⟨h.1,?_⟩;rcases h.2 with l|⟨g,d,f,p,j,m⟩
 · exact .inl l
 · exact .inr ⟨g,d,f,p,cy i j,m⟩
theorem aD {w:bb} {B e k n:Nat} {v:bc} {f:List bc} (h:w.ownsRow B e k v n f) {g:Nat} (b:v.ownBlock=X g):∃c,w.heap[g]? =X (av c e (0,0)):=by
 rcases h.2 with ⟨rfl,_⟩|⟨j,i,c,rfl,_,d,_⟩
 · cases b
 · injection b with b;subst b;exact ⟨c,d⟩
theorem db {w:bb} {g k e f:Nat} {c d:Array bc} (i:w.heap[g]? =X (av c e (0,0))) (b:w.heap[k]? =X (av d f (0,0))) (h:e≠f):g≠k:=by
 rintro rfl;rw [i] at b;injection b with b
 injection b with _ b
 exact h b
structure ag (F:Nat->Prop) (w:bb) (F':Nat->Prop) (w':bb):Prop where
 os:w'.os=w.os
 tape:w'.tape=w.tape
 output:w'.output=w.output
 size:w.heap.size<=w'.heap.size
 block:∀k,k<w.heap.size->¬F k->w'.heap[k]? =w.heap[k]?
 new:∀k,F' k->F k∨w.heap.size<=k
theorem ag.refl (F:Nat->Prop) (w:bb):ag F w F w:=⟨rfl,rfl,rfl,eg _,λ_ _ _=>rfl,λ_ h=> .inl h⟩
theorem ag.trans {F d e:Nat->Prop} {x y z:bb} (h:ag F x d y) (k:ag d y e z):ag F x e z:=
 ⟨k.os.trans h.os,k.tape.trans h.tape,k.output.trans h.output,cy h.size k.size,
  λj c f=>(k.block j (Nat.lt_of_lt_of_le c h.size) (λg=>by rcases h.new j g with b|b;exact f b;omega)).trans (h.block j c f),
  λj c=>by
   rcases k.new j c with b|b
   · exact h.new j b
   · exact .inr (cy h.size b)⟩
theorem ag.not {F b:Nat->Prop} {x y:bb} (h:ag F x b y) {k:Nat} (f:k<x.heap.size) (e:¬F k):¬b k:=λd=>by
 rcases h.new k d with c|c
 · exact e c
 · omega
theorem ag.of_below {F:Nat->Prop} {w w':bb} (h:Bw w w'):ag F w F w':=⟨h.os,h.tape,h.output,h.size,λk b _=>h.block k b,λ_ h=> .inl h⟩
theorem ag.of_only {F:Nat->Prop} {b:Nat} {w w':bb} (h:ar b w w') (c:F b):ag F w F w':=⟨h.os,h.tape,h.output,by rw [h.size];exact eg _,λk _ d=>h.block k (λe=>d (e ▸ c)),λ_ h=> .inl h⟩
theorem ag.below {F b:Nat->Prop} {w w':bb} {lo:Nat} (h:ag F w b w') (e:∀k,F k->lo<=k) (g:lo<=w.heap.size):Below lo w w'/\∀k,b k->lo<=k:=
 ⟨⟨h.os,h.tape,h.output,h.size,λk d=>h.block k (by omega) (λf=>by have:=e k f;omega)⟩,λk d=>by rcases h.new k d with c|c;exact e k c;omega⟩
theorem ag.cell {F b:Nat->Prop} {w w':bb} (h:ag F w b w') {k:Nat} (c:k<w.heap.size) (d:¬F k) (i:Nat):w'.cell? ⟨k,i,Y⟩=w.cell? ⟨k,i,Y⟩:=cd (a:=⟨k,i,Y⟩) (h.block k c d)
theorem ag.widen {F G c:Nat->Prop} {w w':bb} (h:ag F w c w') (d:∀k,F k->G k):ag G w c w':=
 ⟨h.os,h.tape,h.output,h.size,λk b f=>h.block k b (λe=>f (d k e)),λk b=>(h.new k b).imp (d k) id⟩
theorem ag.lo {N b:Nat->Prop} {w w':bb} {lo:Nat} (h:ag N w b w') (c:∀k,N k->lo<=k) (d:lo<=w.heap.size):∀k,b k->lo<=k:=(h.below c d).2
end
section
open Go.RowKit Go.Maps Go.WideShapes Go.WideElems
open Go.ChangeMaps (setBlock heap_setBlock_same heap_setBlock_other)
set_option linter.unusedSectionVars false
section
variable {P:dz} {kt:b7} {K:Type} [DecidableEq K] {B:ee P kt K}
theorem ie {w:bb} {b:Nat} {d:Array MapEntry} {c:Nat} (e:w.heap[b]? =X (.map d c)) (o:Obj):ar b w (setBlock w b o):=
 ⟨rfl,rfl,rfl,by simp [setBlock],λ_ f=>heap_setBlock_other e o f⟩
theorem ak.entry {w:bb} {b:Nat} {l:List (K×bc)} (h:ak B w b l) (KL:WideMaps.KeyLaw P kt) {t e:b7} (ht:P.underlying t=X (.map kt e)) {z:bc} (hz:∀u:bb,(zeroValue e).run P u= .ok z u) (k:K) (H:B.ok k) (hn:l.length<maxLen):
 ∃(s:Nat) (c:Array MapEntry) (c1:Nat),(Instr.mapEntry t (aT (X b)) (B.kv k)).run P w= .ok (.tuple #[(lookL l k).getD z,J U s]) (setBlock w b (.map c c1))/\
  (setBlock w b (.map c c1)).heap[b]? =X (.map c c1)/\ar b w (setBlock w b (.map c c1))/\
  ∀(i:bb) (val:bc),i.heap[b]? =X (.map c c1)->∃N,(Instr.entryStore t (aT (X b)) (J U s) val).run P i= .ok () N/\ak B N b (putL l k val)/\ar b i N:=by
 have a4:=h.nodup;obtain ⟨C,R,D,T⟩:=h;obtain ⟨a1,ad,j,F,ao,E⟩:=id R;have n:=B.key k H;obtain ⟨A,s,c,c1,a7,a3,a8⟩:=entry_then_store KL ht hz j F n;have a0:C.Perm (a1.toList.map (rg P kt heldR)):=by
  injection E with E
  rw [E];exact sorted_perm _
 have a9:A=(lookL l k).getD z:=by
  rcases a3 with ⟨O,W,a2,G⟩|⟨a5,G⟩
  · obtain ⟨y,g⟩:=F.reads O W;obtain ⟨q,hq,a6⟩:=rd_val g;have f:=rd_key g;rw [a2,n] at f;injection f with f
    simp only [heldR,bv] at hq;have ac:y=(B.kl k, .held A):=e0 f.symm (by rw [a6, <- hq,G]);have I:(B.kl k,DataW.held A)∈C:=a0.mem_iff.2 (List.mem_map.2 ⟨O,W,by rw [rg_of g,ac]⟩);obtain ⟨p,hp,m⟩:=List.mem_map.1 (D.mem_iff.1 I);injection m with e1 e2
    injection e2 with e2
    have e3:=B.lit_inj (T p hp) H e1;have:lookL l k=X A:=(bi a4).2 (by rw [<- e3, <- e2];exact hp);rw [this];rfl
  · have:lookL l k=Y:=gT.2 λv hv=>by have I:(B.kl k,DataW.held v)∈C:=D.mem_iff.2 (List.mem_map.2 ⟨_,hv,rfl⟩);obtain ⟨x,hx,m⟩:=List.mem_map.1 (a0.mem_iff.1 I);obtain ⟨y,g⟩:=F.reads x hx;rw [rg_of g] at m;have f:=rd_key g;rw [m] at f;exact a5 x hx (B.keyed.inj f n)
    rw [this];exact G
 refine ⟨s,c,c1,by rw [a7,a9];rfl,heap_setBlock_same j _,ie j _,λi val M=>?_⟩;obtain ⟨al,c2,hs,hu⟩:=a8 i val M;refine ⟨_,hs,?_,ie M _⟩;obtain ⟨w',r,ho,_⟩:=R.store B.keyed ht hn n (val:=val) (d:= .held val) (ps:=[]) rfl;rw [hu] at r;injection r with _ r
 subst r;have:=ak.put_of D T H val ho;exact this.block (by rw [heap_setBlock_same M,heap_setBlock_same j])
end
section
variable {P:dz} {o:Oper} {a:Act} {K:Act->bb->Prop} {Q:Exit->Act->bb->Prop} {w:bb}
theorem bo {t:b7} {m x:fr} (c:o.op=Op.mapEntry t m x) {v:bc} {w':bb} (d:(Instr.mapEntry t (a.eval m) (a.eval x)).run P w= .ok v w') (b:K (a.put o.dst v) w'):o.wp P a w K Q:=by
 unfold Oper.wp;simp [execOp,c,d,dr];exact b
theorem aW {t:b7} {m s x:fr} (c:o.op=Op.entryStore t m s x) {w':bb} (d:(Instr.entryStore t (a.eval m) (a.eval s) (a.eval x)).run P w= .ok () w') (b:K (a.put o.dst undef) w'):o.wp P a w K Q:=by
 unfold Oper.wp;simp [execOp,c,d,dr];exact b
end
end
section
open Go
section
variable {P:dz} {ops:Array Oper} {Q:Exit->Act->bb->Prop} {md:cz} {S:bb->Prop} {z:Nat}
def anyT (P:dz) (md:cz) (ops:Array Oper) (Q:Exit->Act->bb->Prop) (S:bb->Prop) (z:Nat):Nat->Array Bool->Act->bb->Prop
 |0,listed,a,w=>bk md ops listed=[]/\Q .normal a w
 |n+1,listed,a,w=>
  (bk md ops listed=[]->Q .normal a w)/\
  ∀i∈bk md ops listed,wpOp P ops Q i (λb w'=>(i≠z->S w')/\anyT P md ops Q S z n (listed.setIfInBounds i true) b w') a w
theorem lZ:∀(n:Nat) (listed:Array Bool) (a:Act) (w:bb),anyT P md ops Q S z n listed a w->wpAny P md ops Q n listed a w
 |0,_,_,_,h=>h
 |n+1,_,_,_,h=>⟨h.1,λi d=>wpOp_mono (λb w' c=>lZ n _ b w' c.2) (h.2 i d)⟩
def nJ (md:cz) (ops:Array Oper) (z i:Nat):Bool:=match ops[z]? with
 |some o=>o.after.any λe=>cu md e&&e.on==i
 |none=>false
theorem uS {i:Nat} {g:Array Bool} (c:nJ md ops z i=true) (h:g.getD i true=false):z∉bk md ops g:=by
 intro m;obtain ⟨_,o,l,j⟩:=mem_ready.1 m;unfold nJ at c;rw [l] at c;simp only at c;obtain ⟨e,k,f⟩:=Array.any_eq_true'.1 c;simp only [b2,beq_iff_eq] at f;have b:=j e k f.1;rw [f.2] at b;rcases c6 i g.size with d|d
 · simp [d] at h b;rw [h] at b;cases b
 · simp [bt d] at b
theorem tp {i:Nat} {g:Oper} {v:bc} (u:ops[i]? =X g) (E:∀(j:Nat) (o:Oper) l b,ops[j]? =X o->o.op≠ .select l b)
 (N:∀c a w,Q (.panic c) (a.put g.dst v) w->Q (.panic c) a w) (hz:nJ md ops z i=true) (a6:i≠z):
 ∀(n:Nat) (d:Array Bool) (a:Act) (w:bb),
  (∀j f,ops[j]? =X f->j≠i->d.getD j true=false->(∀e∈f.after,cu md e=true->e.on≠i)->g.apart ops f=true)->
  i∈bk md ops d->YieldsIf P ops S g v a->S w->
  anyT P md ops Q S z n (d.setIfInBounds i true) (a.put g.dst v) w->anyT P md ops Q S z (n+1) d a w:=by
 intro n;induction n with
 |zero=>
  intro d a w _ r s p H;refine ⟨λh=>absurd r (by rw [h];simp),λj q=>?_⟩;by_cases hji:j=i
  · subst hji;exact s.wpOp u p ⟨λ_=>p,H⟩
  · exact absurd (cQ q hji) (by rw [H.1];simp)
 |succ n ih=>
  intro d a w C r s p H;have y:=(mem_ready.1 r).1;refine ⟨λh=>absurd r (by rw [h];simp),λj q=>?_⟩;by_cases hji:j=i
  · subst hji;exact s.wpOp u p ⟨λ_=>p,H⟩
  · have a0:j≠z:=λe=>uS hz y (e ▸ q);obtain ⟨D,f,x,O⟩:=mem_ready.1 q;have a4:∀e∈f.after,cu md e=true->e.on≠i:=by
     intro e T R W;have m:=O e T R;rw [W] at m;rcases c6 i d.size with t|t
     · simp [t] at y m;rw [y] at m;cases m
     · simp [bt t] at m
    have I:=wpOp_putIf x (C j f x hji D a4) (λl b=>E i g l b u) (λl b=>E j f l b x) N s (H.2 j (cQ q hji));refine wpOp_mono (λG w' M=>?_) I;obtain ⟨a5,A,F⟩:=M;refine ⟨A,ih (d.setIfInBounds j true) G w' ?_ (cQ r (Ne.symm hji)) a5 (A a0) ?_⟩
    · intro k ok hk a1 a2 a3;refine C k ok hk a1 ?_ a3;by_cases hjk:j=k
      · subst hjk;exact D
      · rwa [getD_set_ne true hjk] at a2
    · rw [cp _ _ hji];exact F
theorem bM {i:Nat} {d:Oper} {v:bc} {n:Nat} {b:Array Bool} {a:Act} {w:bb} (e:ops[i]? =X d)
 (m:bB ops=true) (j:b6 md ops b i=true) (l:(bk md ops b).contains i=true) (q:nJ md ops z i=true) (k:i≠z)
 (f:∀c a w,Q (.panic c) (a.put d.dst v) w->Q (.panic c) a w) (g:S w) (p:YieldsIf P ops S d v a)
 (h:anyT P md ops Q S z n (b.setIfInBounds i true) (a.put d.dst v) w):anyT P md ops Q S z (n+1) b a w:=
 tp e (Region.noSelect_spec m) f q k n b a w (Region.free_spec e j) (by simpa using l) p g h
theorem Bh {i:Nat} {o:Oper} {n:Nat} {c:Array Bool} {a:Act} {w:bb} (m:ops[i]? =X o) (e:bk md ops c=[i]) (l:o.guard=Y)
 (h:∀K:Act->bb->Prop,(∀b w',(i≠z->S w')->anyT P md ops Q S z n (c.setIfInBounds i true) b w'->K b w')->o.wp P a w K Q):anyT P md ops Q S z (n+1) c a w:=by
 refine ⟨λf=>absurd f (by rw [e];simp),λj d=>?_⟩;rw [e] at d;obtain rfl:j=i:=by simpa using d
 unfold wpOp;rw [m];simp only [bs,l,if_true];exact .inl (h _ λb w' g k=>⟨g,k⟩)
theorem AZ {c:Array Bool} {a:Act} {w:bb} (b:bk md ops c=[]) (h:Q .normal a w):∀n,anyT P md ops Q S z n c a w
 |0=>⟨b,h⟩
 |_+1=>⟨λ_=>h,by rw [b];simp⟩
theorem Aa {id:Nat} {l:List Oper} {a:Act} {w:bb} (S:bb->Prop) (z:Nat) (b:P.follows .mixedOrders=true)
 (h:anyT P .any l.toArray Q S z l.toArray.size (dk l.toArray.size false) a w.drew):(Code.region id l.toArray true).wp P Q a w:=
 wp_region_any b (lZ _ _ _ _ h)
end
end
section
open Go.RowKit
section
variable {P:dz} {md:cz} {ops:Array Oper} {Q:Exit->Act->bb->Prop} {S:bb->Prop} {z:Nat}
theorem rF {i:Nat} {g:Oper} {v:bc} (x:ops[i]? =X g) (D:∀(j:Nat) (o:Oper) l b,ops[j]? =X o->o.op≠ .select l b)
 (N:∀c a w,Q (.panic c) (a.put g.dst v) w->Q (.panic c) a w) (hz:ops[z]? =Y):
 ∀(n:Nat) (d:Array Bool) (a:Act) (w:bb),
  (∀j f,ops[j]? =X f->j≠i->d.getD j true=false->(∀e∈f.after,cu md e=true->e.on≠i)->g.apart ops f=true)->
  i∈bk md ops d->YieldsIf P ops S g v a->S w->
  anyT P md ops Q S z n (d.setIfInBounds i true) (a.put g.dst v) w->anyT P md ops Q S z (n+1) d a w:=by
 intro n;induction n with
 |zero=>
  intro d a w _ r t p H;refine ⟨λh=>absurd r (by rw [h];simp),λj s=>?_⟩;by_cases hji:j=i
  · subst hji;exact t.wpOp x p ⟨λ_=>p,H⟩
  · exact absurd (cQ s hji) (by rw [H.1];simp)
 |succ n ih=>
  intro d a w A r t p H;have E:=(mem_ready.1 r).1;refine ⟨λh=>absurd r (by rw [h];simp),λj s=>?_⟩;by_cases hji:j=i
  · subst hji;exact t.wpOp x p ⟨λ_=>p,H⟩
  · obtain ⟨C,f,q,O⟩:=mem_ready.1 s;have a0:j≠z:=λe=>by rw [e,hz] at q;cases q
    have a4:∀e∈f.after,cu md e=true->e.on≠i:=by
     intro e T R W;have m:=O e T R;rw [W] at m;rcases c6 i d.size with u|u
     · simp [u] at E m;rw [E] at m;cases m
     · simp [bt u] at m
    have I:=wpOp_putIf q (A j f q hji C a4) (λl b=>D i g l b x) (λl b=>D j f l b q) N t (H.2 j (cQ s hji));refine wpOp_mono (λG w' M=>?_) I;obtain ⟨a5,y,F⟩:=M;refine ⟨y,ih (d.setIfInBounds j true) G w' ?_ (cQ r (Ne.symm hji)) a5 (y a0) ?_⟩
    · intro k ok hk a1 a2 a3;refine A k ok hk a1 ?_ a3;by_cases hjk:j=k
      · subst hjk;exact C
      · rwa [getD_set_ne true hjk] at a2
    · rw [cp _ _ hji];exact F
theorem bT {i:Nat} {d:Oper} {v:bc} {n:Nat} {b:Array Bool} {a:Act} {w:bb} (e:ops[i]? =X d)
 (l:bB ops=true) (j:b6 md ops b i=true) (k:(bk md ops b).contains i=true) (p:ops[z]? =Y)
 (f:∀c a w,Q (.panic c) (a.put d.dst v) w->Q (.panic c) a w) (g:S w) (m:YieldsIf P ops S d v a)
 (h:anyT P md ops Q S z n (b.setIfInBounds i true) (a.put d.dst v) w):anyT P md ops Q S z (n+1) b a w:=
 rF e (Region.noSelect_spec l) f p n b a w (Region.free_spec e j) (by simpa using k) m g h
theorem Bg {i:Nat} {o:Oper} {n:Nat} {c:Array Bool} {a:Act} {w:bb} (m:ops[i]? =X o) (e:bk md ops c=[i]) (l:bs o (yielded ops a.tmps)=true)
 (h:∀K:Act->bb->Prop,(∀b w',(i≠z->S w')->anyT P md ops Q S z n (c.setIfInBounds i true) b w'->K b w')->o.wp P a w K Q):anyT P md ops Q S z (n+1) c a w:=by
 refine ⟨λf=>absurd f (by rw [e];simp),λj d=>?_⟩;rw [e] at d;obtain rfl:j=i:=by simpa using d
 unfold wpOp;rw [m];simp only [l,if_true];exact .inl (h _ λb w' g k=>⟨g,k⟩)
theorem bS {i j:Nat} {o g:Oper} {n:Nat} {e:Array Bool} {a:Act} {w:bb} (q:ops[i]? =X o) (r:ops[j]? =X g)
 (h:bk md ops e=[i,j]) (m:o.guard=Y) (p:g.guard=Y)
 (c:∀K:Act->bb->Prop,(∀b w',(i≠z->S w')->anyT P md ops Q S z n (e.setIfInBounds i true) b w'->K b w')->o.wp P a w K Q)
 (d:∀K:Act->bb->Prop,(∀b w',(j≠z->S w')->anyT P md ops Q S z n (e.setIfInBounds j true) b w'->K b w')->g.wp P a w K Q):anyT P md ops Q S z (n+1) e a w:=by
 refine ⟨λl=>absurd l (by rw [h];simp),λk f=>?_⟩;rw [h] at f;simp only [bw,List.not_mem_nil,or_false] at f;rcases f with rfl|rfl
 · unfold wpOp;rw [q];simp only [bs,m,if_true];exact .inl (c _ λb w' c d=>⟨c,d⟩)
 · unfold wpOp;rw [r];simp only [bs,p,if_true];exact .inl (d _ λb w' c d=>⟨c,d⟩)
theorem l0 {i j k:Nat} {o g h:Oper} {n:Nat} {e:Array Bool} {a:Act} {w:bb} (u:ops[i]? =X o) (v:ops[j]? =X g) (x:ops[k]? =X h)
 (l:bk md ops e=[i,j,k]) (r:o.guard=Y) (s:g.guard=Y) (t:h.guard=Y)
 (c:∀K:Act->bb->Prop,(∀b w',(i≠z->S w')->anyT P md ops Q S z n (e.setIfInBounds i true) b w'->K b w')->o.wp P a w K Q)
 (d:∀K:Act->bb->Prop,(∀b w',(j≠z->S w')->anyT P md ops Q S z n (e.setIfInBounds j true) b w'->K b w')->g.wp P a w K Q)
 (p:∀K:Act->bb->Prop,(∀b w',(k≠z->S w')->anyT P md ops Q S z n (e.setIfInBounds k true) b w'->K b w')->h.wp P a w K Q):anyT P md ops Q S z (n+1) e a w:=by
 refine ⟨λm=>absurd m (by rw [l];simp),λq f=>?_⟩;rw [l] at f;simp only [bw,List.not_mem_nil,or_false] at f;rcases f with rfl|rfl|rfl
 · unfold wpOp;rw [u];simp only [bs,r,if_true];exact .inl (c _ λb w' c d=>⟨c,d⟩)
 · unfold wpOp;rw [v];simp only [bs,s,if_true];exact .inl (d _ λb w' c d=>⟨c,d⟩)
 · unfold wpOp;rw [x];simp only [bs,t,if_true];exact .inl (p _ λb w' c d=>⟨c,d⟩)
end
end
section
variable {P:dz} {md:cz} {ops:Array Oper} {Q:Exit->Act->bb->Prop} {S:bb->Prop} {z:Nat}
def TL (_:List Nat):Prop:=True
theorem tkL (l:List Nat):TL l:=trivial
theorem tkO {i:Nat} {is:List Nat} (_:TL (i::is)):TL is:=trivial
theorem tk {n:Nat} {d:Array Bool} {a:Act} {w:bb} {b:Oper} (i:Nat) (v:bc) (k:ops[i]? =X b) (f:S w)
 (q:∀w',S w'->(execOp a.eval b).run P w'= .ok (.value v) w') (h:anyT P md ops Q S z n (d.setIfInBounds i true) (a.put b.dst v) w)
 (j:bs b (yielded ops a.tmps)=true:=by rfl) (p:bB ops=true:=by kernel_rfl) (g:b6 md ops d i=true:=by kernel_rfl)
 (m:(bk md ops d).contains i=true:=by kernel_rfl) (r:nJ md ops z i=true:=by kernel_rfl) (l:i≠z:=by decide)
 (e:∀c a w,Q (.panic c) (a.put b.dst v) w->Q (.panic c) a w:=by exact λ_ _ _ h=>h):anyT P md ops Q S z (n+1) d a w:=
 bM k p g m r l e f (Or.inl ⟨j,q⟩) h
theorem tkI {n:Nat} {d:Array Bool} {a:Act} {w:bb} {b:Oper} {i:Nat} {is:List Nat} (_:TL (i::is)) (v:bc) (k:ops[i]? =X b) (f:S w)
 (q:∀w',S w'->(execOp a.eval b).run P w'= .ok (.value v) w') (h:anyT P md ops Q S z n (d.setIfInBounds i true) (a.put b.dst v) w)
 (j:bs b (yielded ops a.tmps)=true:=by rfl) (p:bB ops=true:=by kernel_rfl) (g:b6 md ops d i=true:=by kernel_rfl)
 (m:(bk md ops d).contains i=true:=by kernel_rfl) (r:nJ md ops z i=true:=by kernel_rfl) (l:i≠z:=by decide)
 (e:∀c a w,Q (.panic c) (a.put b.dst v) w->Q (.panic c) a w:=by exact λ_ _ _ h=>h):anyT P md ops Q S z (n+1) d a w:=
 tk i v k f q h j p g m r l e
theorem tf {n:Nat} {b:Array Bool} {a:Act} {w:bb} {d:Oper} (i:Nat) (k:ops[i]? =X d) (f:S w)
 (h:anyT P md ops Q S z n (b.setIfInBounds i true) (a.put d.dst undef) w)
 (j:bs d (yielded ops a.tmps)=false:=by rfl) (p:bB ops=true:=by kernel_rfl) (g:b6 md ops b i=true:=by kernel_rfl)
 (m:(bk md ops b).contains i=true:=by kernel_rfl) (q:nJ md ops z i=true:=by kernel_rfl) (l:i≠z:=by decide)
 (e:∀c a w,Q (.panic c) (a.put d.dst undef) w->Q (.panic c) a w:=by exact λ_ _ _ h=>h):anyT P md ops Q S z (n+1) b a w:=
 bM k p g m q l e f (Or.inr ⟨j,rfl⟩) h
theorem tkS {n:Nat} {d:Array Bool} {a:Act} {w:bb} {b:Oper} (i:Nat) (v:bc) (k:ops[i]? =X b) (f:S w)
 (p:∀w',S w'->(execOp a.eval b).run P w'= .ok (.value v) w') (h:anyT P md ops Q S z n (d.setIfInBounds i true) (a.put b.dst v) w)
 (j:bs b (yielded ops a.tmps)=true:=by rfl) (m:bB ops=true:=by kernel_rfl) (g:b6 md ops d i=true:=by kernel_rfl)
 (l:(bk md ops d).contains i=true:=by kernel_rfl) (q:ops[z]? =Y:=by rfl)
 (e:∀c a w,Q (.panic c) (a.put b.dst v) w->Q (.panic c) a w:=by exact λ_ _ _ h=>h):anyT P md ops Q S z (n+1) d a w:=
 bT k m g l q e f (Or.inl ⟨j,p⟩) h
theorem tkIS {n:Nat} {d:Array Bool} {a:Act} {w:bb} {b:Oper} {i:Nat} {is:List Nat} (_:TL (i::is)) (v:bc) (k:ops[i]? =X b) (f:S w)
 (p:∀w',S w'->(execOp a.eval b).run P w'= .ok (.value v) w') (h:anyT P md ops Q S z n (d.setIfInBounds i true) (a.put b.dst v) w)
 (j:bs b (yielded ops a.tmps)=true:=by rfl) (m:bB ops=true:=by kernel_rfl) (g:b6 md ops d i=true:=by kernel_rfl)
 (l:(bk md ops d).contains i=true:=by kernel_rfl) (q:ops[z]? =Y:=by rfl)
 (e:∀c a w,Q (.panic c) (a.put b.dst v) w->Q (.panic c) a w:=by exact λ_ _ _ h=>h):anyT P md ops Q S z (n+1) d a w:=
 tkS i v k f p h j m g l q e
theorem tfS {n:Nat} {b:Array Bool} {a:Act} {w:bb} {d:Oper} (i:Nat) (k:ops[i]? =X d) (f:S w)
 (h:anyT P md ops Q S z n (b.setIfInBounds i true) (a.put d.dst undef) w)
 (j:bs d (yielded ops a.tmps)=false:=by rfl) (m:bB ops=true:=by kernel_rfl) (g:b6 md ops b i=true:=by kernel_rfl)
 (l:(bk md ops b).contains i=true:=by kernel_rfl) (p:ops[z]? =Y:=by rfl)
 (e:∀c a w,Q (.panic c) (a.put d.dst undef) w->Q (.panic c) a w:=by exact λ_ _ _ h=>h):anyT P md ops Q S z (n+1) b a w:=
 bT k m g l p e f (Or.inr ⟨j,rfl⟩) h
theorem dO {n:Nat} {b:Array Bool} {a:Act} {w:bb} {o:Oper} (i:Nat) (e:ops[i]? =X o)
 (h:∀K:Act->bb->Prop,(∀c w',(i≠z->S w')->anyT P md ops Q S z n (b.setIfInBounds i true) c w'->K c w')->o.wp P a w K Q)
 (f:bk md ops b=[i]:=by kernel_rfl) (d:o.guard=Y:=by rfl):anyT P md ops Q S z (n+1) b a w:=
 Bh e f d h
theorem dB {n:Nat} {b:Array Bool} {a:Act} {w:bb} {o:Oper} (i:Nat) (e:ops[i]? =X o)
 (h:∀K:Act->bb->Prop,(∀c w',(i≠z->S w')->anyT P md ops Q S z n (b.setIfInBounds i true) c w'->K c w')->o.wp P a w K Q)
 (f:bk md ops b=[i]:=by kernel_rfl) (d:bs o (yielded ops a.tmps)=true:=by rfl):anyT P md ops Q S z (n+1) b a w:=
 Bg e f d h
theorem dN {n:Nat} {b:Array Bool} {a:Act} {w:bb} (h:Q .normal a w) (c:bk md ops b=[]:=by kernel_rfl):anyT P md ops Q S z n b a w:=AZ c h n
theorem wT {id:Nat} {l:List Oper} {a:Act} {w:bb} (S:bb->Prop) (z:Nat)
 (h:anyT P .any l.toArray Q S z l.toArray.size (dk l.toArray.size false) a w.drew) (b:P.follows .mixedOrders=true:=by kernel_rfl):(Code.region id l.toArray true).wp P Q a w:=
 Aa S z b h
theorem Dp {n:Nat} {b:Array Bool} {a:Act} {w:bb} {o:Oper} (i:Nat)
 (h:∀K:Act->bb->Prop,(∀c w',(i≠z->S w')->anyT P md ops Q S z n (b.setIfInBounds i true) c w'->K c w')->o.wp P a w K Q)
 (e:ops[i]? =X o:=by exact rfl) (f:bk md ops b=[i]:=by kernel_rfl) (d:o.guard=Y:=by rfl):anyT P md ops Q S z (n+1) b a w:=
 Bh e f d h
theorem Dj {n:Nat} {b:Array Bool} {a:Act} {w:bb} {o:Oper} {i:Nat} {is:List Nat} (_:TL (i::is))
 (h:∀K:Act->bb->Prop,(∀c w',(i≠z->S w')->anyT P md ops Q S z n (b.setIfInBounds i true) c w'->K c w')->o.wp P a w K Q)
 (e:ops[i]? =X o:=by exact rfl) (f:bk md ops b=[i]:=by kernel_rfl) (d:o.guard=Y:=by rfl):anyT P md ops Q S z (n+1) b a w:=
 Bh e f d h
theorem Dq {n:Nat} {b:Array Bool} {a:Act} {w:bb} {o:Oper} (i:Nat)
 (h:∀K:Act->bb->Prop,(∀c w',(i≠z->S w')->anyT P md ops Q S z n (b.setIfInBounds i true) c w'->K c w')->o.wp P a w K Q)
 (e:ops[i]? =X o:=by exact rfl) (f:bk md ops b=[i]:=by kernel_rfl) (d:bs o (yielded ops a.tmps)=true:=by rfl):anyT P md ops Q S z (n+1) b a w:=
 Bg e f d h
theorem Wb {id:Nat} {l:List Oper} {a:Act} {w:bb} (v:bb) (z:Nat)
 (h:anyT P .any l.toArray Q (λW=>Go.RowKit.Below v.heap.size v W) z l.toArray.size (dk l.toArray.size false) a w.drew) (b:P.follows .mixedOrders=true:=by kernel_rfl):(Code.region id l.toArray true).wp P Q a w:=
 Aa _ z b h
theorem Qa {G b q:Prop} (l:List Nat) (x:q) (g:b) (h:TL l->q->Go.RowKit.Hid b->G:=by intro z x k;(repeat (refine tkI z ?_ rfl x ?_ ?_;rotate_left;intro w' h;go_simp;rfl;(try go_simp);replace z:=tkO z));exact k.o):G:=h trivial x g
theorem Qc {G b q:Prop} (l:List Nat) (x:q) (g:b) (h:TL l->q->Go.RowKit.Hid b->G:=by intro z x k;(repeat (refine tkIS z ?_ rfl x ?_ ?_;rotate_left;intro w' h;go_simp;rfl;(try go_simp);replace z:=tkO z));exact k.o):G:=h trivial x g
theorem Qb {G b q:Prop} {T F:bb->Prop} (l:List Nat) (x:q) (f:∀w,T w->F w) (g:b) (h:TL l->q->Go.RowKit.Hid (∀w,T w->F w)->Go.RowKit.Hid b->G:=by intro z x f k;(repeat (refine tkI z ?_ rfl x ?_ ?_;rotate_left;intro w' h;have q:=f w' h;go_simp;rfl;(try go_simp);replace z:=tkO z));exact k.o):G:=h trivial x f g
theorem Qd {G b q:Prop} {T F:bb->Prop} (l:List Nat) (x:q) (f:∀w,T w->F w) (g:b) (h:TL l->q->Go.RowKit.Hid (∀w,T w->F w)->Go.RowKit.Hid b->G:=by intro z x f k;(repeat (refine tkIS z ?_ rfl x ?_ ?_;rotate_left;intro w' h;have q:=f w' h;go_simp;rfl;(try go_simp);replace z:=tkO z));exact k.o):G:=h trivial x f g
theorem Dl {G b:Prop} (i:Nat) (g:b) (h:TL [i]->Go.RowKit.Hid b->G:=by intro z k;refine Dj z λK O=>?_;go_simp;refine O _ _ (λh=>absurd rfl h) ?_;clear O K;refine dN ?_;exact k.o):G:=h trivial g
theorem Ds {G b q:Prop} (i:Nat) (x:q) (g:b) (h:TL [i]->q->Go.RowKit.Hid b->G:=by intro z x k;refine Dj z λK O=>?_;go_simp;refine O _ _ (λ_=>x) ?_;clear O K;exact k.o):G:=h trivial x g
theorem tfIS {n:Nat} {b:Array Bool} {a:Act} {w:bb} {d:Oper} {i:Nat} {is:List Nat} (_:TL (i::is)) (k:ops[i]? =X d) (f:S w)
 (h:anyT P md ops Q S z n (b.setIfInBounds i true) (a.put d.dst undef) w)
 (j:bs d (yielded ops a.tmps)=false:=by rfl) (m:bB ops=true:=by kernel_rfl) (g:b6 md ops b i=true:=by kernel_rfl)
 (l:(bk md ops b).contains i=true:=by kernel_rfl) (p:ops[z]? =Y:=by rfl)
 (e:∀c a w,Q (.panic c) (a.put d.dst undef) w->Q (.panic c) a w:=by exact λ_ _ _ h=>h):anyT P md ops Q S z (n+1) b a w:=
 tfS i k f h j m g l p e
theorem Qg {G b q:Prop} (l:List Nat) (x:q) (g:b) (h:TL l->q->Go.RowKit.Hid b->G:=by intro z x k;(repeat (refine tfIS z rfl x ?_;(try go_simp);replace z:=tkO z));exact k.o):G:=h trivial x g
theorem eql_if {w:bb} {a b c d:Int} {t:Bool} (h:decide (a=c/\b=d)=t):(if a=c then if b=d then Result.ok (Next.value (ex true)) w else Result.ok (Next.value (ex false)) w else Result.ok (Next.value (ex false)) w)=Result.ok (Next.value (ex t)) w:=by
 subst h;by_cases h1:a=c<;>by_cases h2:b=d<;>simp [h1,h2]
theorem Qh {G b q r:Prop} (l:List Nat) (x:q) (e:r) (g:b) (h:TL l->q->Go.RowKit.Hid r->Go.RowKit.Hid b->G:=by intro z x e k;refine tkIS z ?_ rfl x ?_ ?_;rotate_left;intro w' h;go_simp;exact eql_if e.o;(try go_simp);exact k.o):G:=h trivial x e g
theorem calls2 {n:Nat} {f:Array Bool} {a m l p q:Act} {w:bb} {o g:Oper} {C k:bb->Prop} (i j:Nat) (x:S w) (c:∀W,S W->C W) (r:∀W,S W->k W)
 (h:∀W,S W->anyT P md ops Q S z n ((f.setIfInBounds i true).setIfInBounds j true) l W)
 (u:ops[i]? =X o:=by exact rfl) (v:ops[j]? =X g:=by exact rfl)
 (A:Go.RowKit.Hid (∀W,S W->C W)->∀K W,S W->(∀b,S b->K m b)->o.wp P a W K Q:=by intro c K W x h;go_simp;refine c3 (c W x) ?_;rintro e b ⟨rfl,y⟩;exact h b y)
 (D:Go.RowKit.Hid (∀W,S W->k W)->∀K W,S W->(∀b,S b->K l b)->g.wp P m W K Q:=by intro c K W x h;go_simp;refine c3 (c W x) ?_;rintro e b ⟨rfl,y⟩;exact h b y)
 (E:Go.RowKit.Hid (∀W,S W->k W)->∀K W,S W->(∀b,S b->K p b)->g.wp P a W K Q:=by intro c K W x h;go_simp;refine c3 (c W x) ?_;rintro e b ⟨rfl,y⟩;exact h b y)
 (F:Go.RowKit.Hid (∀W,S W->C W)->∀K W,S W->(∀b,S b->K q b)->o.wp P p W K Q:=by intro c K W x h;go_simp;refine c3 (c W x) ?_;rintro e b ⟨rfl,y⟩;exact h b y)
 (G:q=l:=by rfl) (H:i≠j:=by decide)
 (I:bk md ops f=[i,j]:=by kernel_rfl) (M:bk md ops (f.setIfInBounds i true)=[j]:=by kernel_rfl) (N:bk md ops (f.setIfInBounds j true)=[i]:=by kernel_rfl)
 (s:o.guard=Y:=by rfl) (t:g.guard=Y:=by rfl):anyT P md ops Q S z (n+2) f a w:=
 bS u v I s t
  (λ_ d=>A c _ _ x λb y=>d _ _ (λ_=>y) (Bh v M t λ_ d=>D r _ _ y λ_ y=>d _ _ (λ_=>y) (h _ y)))
  (λ_ d=>E r _ _ x λb y=>d _ _ (λ_=>y) (Bh u N s λ_ d=>F c _ _ y λ_ y=>d _ _ (λ_=>y) (by rw [G, <- cp _ _ H];exact h _ y)))
theorem call1 {n:Nat} {d:Array Bool} {a f:Act} {w:bb} {o:Oper} {C:bb->Prop} (i:Nat) (x:S w) (c:∀W,S W->C W)
 (h:∀W,S W->anyT P md ops Q S z n (d.setIfInBounds i true) f W)
 (l:ops[i]? =X o:=by exact rfl)
 (g:Go.RowKit.Hid (∀W,S W->C W)->∀K W,S W->(∀b,S b->K f b)->o.wp P a W K Q:=by intro c K W x h;go_simp;refine c3 (c W x) ?_;rintro e b ⟨rfl,y⟩;exact h b y)
 (m:bk md ops d=[i]:=by kernel_rfl) (k:bs o (yielded ops a.tmps)=true:=by rfl):anyT P md ops Q S z (n+1) d a w:=
 Bg l m k λ_ j=>g c _ _ x λ_ y=>j _ _ (λ_=>y) (h _ y)
end
section
open Go.RowKit
def upB (c:UInt8):UInt8:=if 97<=c.toNat/\c.toNat<=122 then c - 32 else c
theorem lA (s:Bs):∀c∈isbnGo s,(digitB c||xB c)=true:=by
 induction s with
 |nil=>intro c h;cases h
 |cons d l ih=>
  intro c h;unfold isbnGo at h;split at h
  · rename_i b;rcases List.mem_cons.1 h with rfl|h
    · exact b
    · exact ih c h
  · split at h
    · exact ih c h
    · cases h
theorem pB {c:UInt8} (h:digitB c=true):upB c=c:=by
 unfold digitB at h;simp only [b2,decide_eq_true_eq] at h;unfold upB;rw [if_neg (by omega)]
theorem wo:∀c:UInt8,(digitB c||xB c)=true->digitB (upB c)=digitB c/\xB (upB c)=xB c/\(decide (upB c=88)=xB c)/\valB (upB c)<=40:=by
 have:∀n:Fin 256,(digitB (bY n.val)||xB (bY n.val))=true->digitB (upB (bY n.val))=digitB (bY n.val)/\xB (upB (bY n.val))=xB (bY n.val)/\(decide (upB (bY n.val)=88)=xB (bY n.val))/\valB (upB (bY n.val))<=40:=by decide+kernel
 intro c;have h:=this ⟨c.toNat,c.toNat_lt⟩;simpa using h
theorem nr (l:Bs) (h:∀c∈l,(digitB c||xB c)=true):(l.map upB).all digitB=l.all digitB:=by
 induction l with
 |nil=>rfl
 |cons c l ih=>simp only [b8,List.all_cons];rw [ih λx b=>h x (ce _ b),(wo c (h c bA)).1]
theorem tB (l:Bs) (h:l.all digitB=true):l.map upB=l:=by
 induction l with
 |nil=>rfl
 |cons c l ih=> simp only [List.all_cons,b2] at h;simp only [b8];rw [pB h.1,ih h.2]
def tenSum:Nat->Bs->Nat
 |_,[]=>0
 |k,c::l=>(10 - k) * (if c=88 then 10 else valB c)+tenSum (k+1) l
theorem yt (k:Nat) (l:Bs) (h:∀c∈l,(digitB c||xB c)=true):tenSum k (l.map upB)=pJ k l:=by
 induction l generalizing k with
 |nil=>rfl
 |cons c l ih=>
  have g:=wo c (h c bA);simp only [b8];unfold tenSum pJ;rw [ih (k+1) λx b=>h x (ce _ b)];have e:(upB c=88)↔xB c=true:=by rw [<- g.2.2.1];simp
  by_cases b:xB c=true
  · rw [if_pos (e.2 b),if_pos b]
  · rw [if_neg (λf=>b (e.1 f)),if_neg b]
    have i:digitB c=true:=by have:=h c bA;simp only [dx] at this;rcases this with d|d
                             · exact d
                             · exact absurd d b
    rw [pB i]
def fg (u:Bs):Option Bs:=
 if u.length=10/\(tenSum 0 u%11=0/\(u.take 9).all digitB=true) then X ([57,55,56]++u.take 9++[checkR ([57,55,56]++u.take 9)])
 else if u.length=13/\u.all digitB=true/\checkR u=u.getD 12 0 then X u
 else Y
theorem AM (s:Bs):fg ((isbnGo s).map upB)=isbnR s:=by
 have b:=lA s;unfold fg isbnR;simp only;generalize isbnGo s=o at b;rw [cv, <- List.map_take,nr (o.take 9) λc f=>b c (List.mem_of_mem_take f),yt 0 o b];have d:(pJ 0 o%11=0/\(o.take 9).all digitB=true)↔yu o=true:=by unfold yu;simp
 by_cases h1:o.length=10/\yu o=true
 · have e:=(d.2 h1.2).2;rw [if_pos ⟨h1.1,d.2 h1.2⟩,if_pos h1,tB _ e]
 · rw [if_neg λh=>h1 ⟨h.1,d.1 h.2⟩,if_neg h1];unfold fN;rw [nr o b];by_cases h3:o.all digitB=true
   · rw [tB _ h3]
   · rw [if_neg λh=>h3 h.2.1,if_neg λh=>h3 h.2.1]
end
end Go.Proofs.YtjcimanddakkaaaGreatDoor
