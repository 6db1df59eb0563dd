/- Lemmas. -/
import Derived.WalkSpells
import Derived.WalkLawsBesides
import Derived.Lib.Hide
import Derived.Lib.MapLaws
import Derived.Maps.Ext
import Derived.WideKeyEntry
import Derived.OrdersHeld
set_option maxRecDepth 100000
set_option maxHeartbeats 8000000
namespace Go.Proofs.YtjcimanddakkaaaGreatDoor
open _root_.Option renaming some→X,none→Y
open Go.Obj renaming cells→av
open Go.Value renaming bool→ax,int→J,slice→aC,map→aT,pointer→b0
open Go.Ending renaming returned→ay
open Go.IntKind renaming i64→U,u8→aS
open Go renaming World→bb,Value→bc,TypeId→b8,ready_mono→c6,Program→dy,Operand→fc
open Go.Region renaming ready→bk,wanted→bp,noSelect→bO,free→b7,binds→cy,Mode→c3
open _root_.UInt8 renaming ofNat→bs
open _root_.Array renaming getElem?_eq_none→bt,setIfInBounds_comm→cq,replicate→dn
open _root_.Option.some renaming injEq→bw
open _root_.List renaming mem_cons→bA,mem_cons_self→bB,length_append→bD,takeWhile_cons→bT,take_succ_eq_append_getElem→b1,range→b2,pairwise_map→b3,map_cons→b4,mem_cons_of_mem→b6,length_filter_le→b9,length_cons→cb,mem_filter→cc,perm_ext_iff_of_nodup→cg,getD_eq_getElem?_getD→ch,find?_eq_none→cl,flatMap_cons→cu,any_eq_true→cx,length_map→cz,find?_cons→cP,filter_congr→c9,getElem_mem→dc,filter_cons→dd,cons_append→di,getElem?_eq_getElem→eg,getElem_cons_zero→ex,getElem_cons_succ→eQ,take_succ_cons→e6,flatMap_append→e7,filter_sublist→e8,mem_singleton→fl
open _root_.Bool renaming and_eq_true→bY,not_eq_true'→b5,or_eq_true→cd,eq_iff_iff→dx
open Go.World renaming cell?_of_block→ca
open Go.DataW.held renaming injEq→cm
open _root_.Prod.mk renaming injEq→cp
open _root_.Nat renaming add_assoc→cv,le_trans→cQ,le_refl→c5,lt_or_ge→da
open Go.Utf8 renaming decode→c4
open Go.Calls renaming mono→c7
open Go.Ending renaming returned→dk
open Go.Result renaming andThen→dp
open Go.Lib renaming decodeL→dz
open Go.Value renaming bool→ee
open _root_.Prod renaming ext→ej
open Go.Maps renaming has_true_of_atKey→er
open Go.IntKind renaming i64→e0
open Go.WideAt renaming sameKey_self→e4,sameKey_eq→e5
open Go.RowKit.Below renaming heap_setCell→e9
section
open Go.RowKit
theorem Qe {α:Sort _} (e:α):∃x,e=x:=⟨e,rfl⟩
theorem Qf {α:Type _} {a:Option α} {x y:α} (h:a=X x) (e:x=y:=by kernel_rfl):a=X y:=e ▸ h
theorem _root_.Go.RowKit.Hid.o {p:Prop} (h:Go.RowKit.Hid p):p:=h
abbrev Bw (w w':bb):Prop:=Go.RowKit.Below w.heap.size w w'
abbrev Bk (w:bb) (b:Nat) (c:Array bc) (t:b8):Prop:=w.heap[b]? =X (av c t (0,0))
abbrev Cl (w:bb) (b i:Nat) (v:bc):Prop:=w.cell? ⟨b,i,Y⟩=X v
abbrev Bs:=List UInt8
abbrev S (l:Bs):bc:= .string ⟨l.toArray⟩
theorem CD (l:Bs) (k:Nat) (h:k<(⟨l.toArray⟩:ByteArray).size):(⟨l.toArray⟩:ByteArray)[k]'h=l[k]'(by simpa [ByteArray.size] using h):=rfl
attribute [go_sem] CD
theorem BI (l:Bs):(⟨l.toArray⟩:ByteArray).toList=l:=by rw [Lib.toList_data]
theorem uQ (l:Bs) (a b:Nat):(⟨l.toArray⟩:ByteArray).extract a b=⟨((l.take b).drop a).toArray⟩:=by
 apply ByteArray.ext;rw [ByteArray.data_extract];simp [List.extract_eq_take_drop,List.drop_take]
theorem xW (a b:Bs):(⟨a.toArray⟩:ByteArray)++(⟨b.toArray⟩:ByteArray)=⟨(a++b).toArray⟩:=by
 apply ByteArray.ext;rw [ByteArray.data_append];simp
attribute [go_sem] BI uQ xW
theorem nD (c:UInt8):(c.toNat:Int)<256:=by have:=c.toNat_lt;omega
theorem yn (c:UInt8):0<=(c.toNat:Int):=by omega
def letterB (c:UInt8):Bool:=decide (97<=c.toNat)&&decide (c.toNat<=122)
def digitB (c:UInt8):Bool:=decide (48<=c.toNat)&&decide (c.toNat<=57)
def fe (c:UInt8):Bool:=decide (32<c.toNat)&&decide (c.toNat<127)
def gj (c:UInt8):Bool:=decide (32<=c.toNat)&&decide (c.toNat<127)
def fixedN:Nat->Nat->Bs
 |0,_=>[]
 |n+1,v=>fixedN n (v / 10)++[bs (48+v%10)]
theorem cV (n v:Nat):(fixedN n v).length=n:=by
 induction n generalizing v with
 |zero=>rfl
 |succ n ih=>simp [fixedN,ih]
attribute [go_sem] cV
structure Ch where
 left:Nat
 low:Nat
 high:Nat
def ch0:Ch:=⟨0,0,0⟩
def chNext (x:Ch) (c:UInt8):Option Ch:=
 let n:=c.toNat
 if 0<x.left then (if n<x.low∨x.high<n then Y else X ⟨x.left - 1,128,191⟩)
 else if 32<=n/\n<128 then X ⟨0,128,191⟩
 else if 194<=n/\n<224 then X ⟨1,128,191⟩
 else if 224<=n/\n<240 then X ⟨2,if n=224 then 160 else 128,if n=237 then 159 else 191⟩
 else if 240<=n/\n<245 then X ⟨3,if n=240 then 144 else 128,if n=244 then 143 else 191⟩
 else Y
def chRun:Ch->Bs->Option Ch
 |x,[]=>X x
 |x,c::l=>match chNext x c with
  |some y=>chRun y l
  |none=>Y
def aR (l:Bs):Bool:=match chRun ch0 l with
 |some x=>decide (x.left=0)
 |none=>false
structure cB where
 code:UInt8
 text:Bs
 deriving DecidableEq
structure af where
 tag:Bs
 ind:Bs
 data:Bs
 subs:List cB
 deriving DecidableEq
structure az where
 kind:UInt8
 level:UInt8
 fields:List af
 deriving DecidableEq
def bu (s:Bs):Bool:=decide (s.length=3)&&s.all digitB&& !decide (s=[48,48,48])
def fL (t:Bs):Bool:=decide (t.take 2=[48,48])
def iL (s:Bs):Bool:=decide (s.length=2)&&s.all gj
def dt (s:cB):Bool:=aR s.text&&fe s.code
def wrongF (f:af):Int:=
 if !bu f.tag then 13
 else if fL f.tag then (if aR f.data&&decide (f.ind=[])&&f.subs.isEmpty then 0 else 14)
 else if decide (f.data=[])&&iL f.ind&& !f.subs.isEmpty&&f.subs.all dt then 0 else 14
def aU (s:cB):Bs:=31::s.code::s.text
def fieldBytes (f:af):Bs:=f.data++f.ind++f.subs.flatMap aU++[30]
def aI:List af->Int
 |[]=>0
 |f::l=>if wrongF f=0 then aI l else wrongF f
def bL (l:List af):Bool:=l.any λf=>decide (9999<(fieldBytes f).length)
def sizeOf (l:List af):Nat:=l.foldl (λn f=>n+12+(fieldBytes f).length) 26
def wrongR (r:az):Int:=
 if !letterB r.kind|| !letterB r.level then 12
 else if aI r.fields≠0 then aI r.fields
 else if bL r.fields||decide (999<r.fields.length)||decide (99999<sizeOf r.fields) then 2
 else 0
def dq:Nat->List af->Bs
 |_,[]=>[]
 |p,f::l=>f.tag++fixedN 4 (fieldBytes f).length++fixedN 5 p++dq (p+(fieldBytes f).length) l
def dataOf (l:List af):Bs:=l.flatMap fieldBytes
def jD (r:az) (b base:Nat):Bs:=fixedN 5 b++[110,r.kind,r.level,32,97,50,50]++fixedN 5 base++[32,32,32,52,53,48,48]
def iR (r:az):Bs:=
 jD r (25+(dq 0 r.fields).length+(dataOf r.fields).length+1) (25+(dq 0 r.fields).length)++dq 0 r.fields++[30]++dataOf r.fields++[29]
def bE (r:az):Bs×Int:=if wrongR r=0 then (iR r,0) else ([],wrongR r)
def CO (l:Bs) (a b:Nat):Bs:=(l.take b).drop a
theorem an {a b:Bool} (h:a=b):dk (ax a)=ay (ax b):=by rw [h]
theorem aH {a b:Int} (h:a=b):dk (J U a)=ay (J U b):=by rw [h]
theorem we (l:Bs) (k:Nat) (h:k<l.length):l.take (k+1)=l.take k++[l[k]]:=by
 rw [b1 h]
theorem vv {a b:Bs} (h:a=b):dk (S a)=ay (S b):=by rw [h]
theorem fm (b:List af) (k:Nat) (c:k<b.length) (h:aI (b.take k)=0):aI b=if wrongF b[k]=0 then aI (b.drop (k+1)) else wrongF b[k]:=by
 induction b generalizing k with
 |nil=>simp at c
 |cons f l ih=>
  cases k with
  |zero=>simp [aI]
  |succ k=>
   simp only [e6,aI] at h;by_cases hf:wrongF f=0
   · rw [if_pos hf] at h;simp only [aI,if_pos hf,eQ,List.drop_succ_cons];exact ih k (by simpa using c) h
   · rw [if_neg hf] at h;exact absurd h hf
theorem gD (b:List af) (k:Nat) (d:k<b.length) (h:aI (b.take k)=0) (c:wrongF b[k]=0):aI (b.take (k+1))=0:=by
 have:=fm (b.take (k+1)) k (by simp;omega) (by rw [List.take_take];simpa [Nat.min_eq_left] using h);simp only [List.getElem_take,c,if_true] at this;rw [this];simp [aI]
theorem rq (b:List af) (k:Nat) (c:k<b.length):sizeOf (b.take (k+1))=sizeOf (b.take k)+12+(fieldBytes b[k]).length:=by
 unfold sizeOf;rw [b1 c,List.foldl_append];rfl
theorem tB (b:List af) (k:Nat) (c:k<b.length) (h:9999<(fieldBytes b[k]).length):bL b=true:=by
 unfold bL;rw [cx];exact ⟨_,dc c,by simpa using h⟩
theorem oY (b:List af) (k:Nat) (c:k<b.length) (h:bL (b.take k)=false) (d:¬9999<(fieldBytes b[k]).length):bL (b.take (k+1))=false:=by
 unfold bL at *;rw [b1 c,List.any_append,h];simp;omega
open Go.RowKit
structure aw (b:Nat) (w w':bb):Prop where
 os:w'.os=w.os
 tape:w'.tape=w.tape
 output:w'.output=w.output
 size:w'.heap.size=w.heap.size
 block:∀k,k≠b->w'.heap[k]? =w.heap[k]?
theorem aw.refl (b:Nat) (w:bb):aw b w w:=⟨rfl,rfl,rfl,rfl,λ_ _=>rfl⟩
theorem aw.trans {b:Nat} {x y z:bb} (h:aw b x y) (k:aw b y z):aw b x z:=
 ⟨k.os.trans h.os,k.tape.trans h.tape,k.output.trans h.output,k.size.trans h.size,λi c=>(k.block i c).trans (h.block i c)⟩
theorem aw.drew {b:Nat} {a w:bb} (h:aw b a w):aw b a w.drew:=⟨h.os,h.tape,h.output,h.size,h.block⟩
theorem aw.setCell {b:Nat} {a w:bb} (h:aw b a w) (o:Nat) (u:bc):aw b a (w.setCell ⟨b,o,Y⟩ u):=
 h.trans ⟨rfl,rfl,rfl,by simp [World.setCell],λk c=>e9 _ _ _ _ c⟩
theorem aw.below {b B:Nat} {w w':bb} (h:aw b w w') (c:B<=b):Below B w w':=
 ⟨h.os,h.tape,h.output,by rw [h.size];exact c5 _,λk d=>h.block k (by omega)⟩
theorem aw.cell {b:Nat} {w w':bb} (h:aw b w w') {p:Addr} (c:p.block≠b):w'.cell? p=w.cell? p:=ca (w:=w) (h.block p.block c)
theorem aw.frozen {b:Nat} {w w':bb} (h:aw b w w') {p:Addr} (c:p.block≠b):w'.frozen? p=w.frozen? p:=World.frozen?_of_block (w:=w) (h.block p.block c)
theorem btr {B b:Nat} {x y z:bb} (h:Below B x y) (k:Below b y z) (c:B<=b):Below B x z:=h.trans (k.mono c)
theorem aE {W w1:bb} (c:Bw W w1):(∀b o,b<W.heap.size->w1.cell? ⟨b,o,Y⟩=W.cell? ⟨b,o,Y⟩)/\(∀b o,b<W.heap.size->w1.frozen? ⟨b,o,Y⟩=W.frozen? ⟨b,o,Y⟩):=
 ⟨λb o h=>c.cell (p:=⟨b,o,Y⟩) h,λb o h=>c.frozen (p:=⟨b,o,Y⟩) h⟩
theorem bi {w:bb} {p:Addr} {v:bc} (h:w.cell? p=X v):p.block<w.heap.size:=by
 unfold World.cell? at h;by_cases hp:p.block<w.heap.size
 · exact hp
 · rw [bt (by omega)] at h;cases h
theorem fN {w w':bb} (b:Bw w w'):∀p x,w.cell? p=X x->w'.cell? p=X x:=λp x h=>by rw [b.cell (bi h)];exact h
structure tm (w:bb) (b:Nat) (x:Ch):Prop where
 c0:w.cell? ⟨b,0,none⟩=some (.int .i64 x.left)
 c1:w.cell? ⟨b,1,none⟩=some (.int .i64 x.low)
 c2:w.cell? ⟨b,2,none⟩=some (.int .i64 x.high)
 f0:w.frozen? ⟨b,0,none⟩=false
 f1:w.frozen? ⟨b,1,none⟩=false
 f2:w.frozen? ⟨b,2,none⟩=false
def kj (x:Ch):Prop:=x.left<=3/\x.low<=255/\x.high<=255
theorem sS {x y:Ch} {c:UInt8} (b:kj x) (h:chNext x c=X y):kj y:=by
 unfold kj at *;unfold chNext at h;dsimp only at h;split at h
 · split at h
   · cases h
   · cases h;exact ⟨by simp;omega,by simp,by simp⟩
 · split at h
   · cases h;simp
   · split at h
     · cases h;simp
     · split at h
       · cases h;refine ⟨by simp,?_,?_⟩<;>simp<;>split<;>omega
       · split at h
         · cases h;refine ⟨by simp,?_,?_⟩<;>simp<;>split<;>omega
         · cases h
def mV (x:Ch) (c:UInt8) (b:Nat) (w:bb) (e:Ending) (w':bb):Prop:=
 aw b w w'/\((Hid (chNext x c=Y)/\e=ay (ax false))∨∃y,Hid (chNext x c=X y)/\e=ay (ax true)/\tm w' b y)
theorem yV {x:Ch} {c:UInt8} {b:Nat} {w w':bb} {e:Ending} (f:aw b w w') (d:e=ay (ax false)) (h:chNext x c=Y):mV x c b w e w':=⟨f, .inl ⟨h,d⟩⟩
theorem eE {x:Ch} {c:UInt8} {b:Nat} {w w':bb} {e:Ending} {y:Ch} (h:chNext x c=X y) (g:aw b w w') (f:e=ay (ax true)) (d:tm w' b y):mV x c b w e w':=⟨g, .inr ⟨y,h,f,d⟩⟩
theorem BD {x:Ch} {c:UInt8} (h:0<x.left) (b:c.toNat<x.low∨x.high<c.toNat):chNext x c=Y:=by unfold chNext;simp only [if_pos h,if_pos b]
theorem CC {x:Ch} {c:UInt8} (h:0<x.left) (b:¬(c.toNat<x.low∨x.high<c.toNat)):chNext x c=X ⟨x.left - 1,128,191⟩:=by unfold chNext;simp only [if_pos h,if_neg b]
theorem sN {x:Ch} {c:UInt8} (h:¬0<x.left) (b:32<=c.toNat/\c.toNat<128):chNext x c=X ⟨0,128,191⟩:=by unfold chNext;simp only [if_neg h,if_pos b]
theorem zV {x:Ch} {c:UInt8} (h:¬0<x.left) (b:194<=c.toNat/\c.toNat<224):chNext x c=X ⟨1,128,191⟩:=by
 unfold chNext;simp only [if_neg h,if_neg (show ¬(32<=c.toNat/\c.toNat<128) by omega),if_pos b]
theorem mE {x:Ch} {c:UInt8} (h:¬0<x.left) (b:224<=c.toNat/\c.toNat<240):chNext x c=X ⟨2,if c.toNat=224 then 160 else 128,if c.toNat=237 then 159 else 191⟩:=by
 unfold chNext;simp only [if_neg h,if_neg (show ¬(32<=c.toNat/\c.toNat<128) by omega),if_neg (show ¬(194<=c.toNat/\c.toNat<224) by omega),if_pos b]
theorem qu {x:Ch} {c:UInt8} (h:¬0<x.left) (b:240<=c.toNat/\c.toNat<245):chNext x c=X ⟨3,if c.toNat=240 then 144 else 128,if c.toNat=244 then 143 else 191⟩:=by
 unfold chNext;simp only [if_neg h,if_neg (show ¬(32<=c.toNat/\c.toNat<128) by omega),if_neg (show ¬(194<=c.toNat/\c.toNat<224) by omega),if_neg (show ¬(224<=c.toNat/\c.toNat<240) by omega),if_pos b]
theorem lq {x:Ch} {c:UInt8} (h:¬0<x.left) (b:c.toNat<32∨(128<=c.toNat/\c.toNat<194)∨245<=c.toNat):chNext x c=Y:=by
 unfold chNext;simp only [if_neg h,if_neg (show ¬(32<=c.toNat/\c.toNat<128) by omega),if_neg (show ¬(194<=c.toNat/\c.toNat<224) by omega),if_neg (show ¬(224<=c.toNat/\c.toNat<240) by omega),if_neg (show ¬(240<=c.toNat/\c.toNat<245) by omega)]
theorem B4 {x:Ch} {c:UInt8} (h:¬0<x.left) (b:c.toNat=224):chNext x c=X ⟨2,160,191⟩:=by
 rw [mE h (by omega),if_pos (by omega),if_neg (by omega)]
theorem B3 {x:Ch} {c:UInt8} (h:¬0<x.left) (b:c.toNat=237):chNext x c=X ⟨2,128,159⟩:=by
 rw [mE h (by omega),if_neg (by omega),if_pos (by omega)]
theorem B0 {x:Ch} {c:UInt8} (h:¬0<x.left) (b:224<c.toNat/\c.toNat<240/\c.toNat≠237):chNext x c=X ⟨2,128,191⟩:=by
 rw [mE h (by omega),if_neg (by omega),if_neg (by omega)]
theorem BZ {x:Ch} {c:UInt8} (h:¬0<x.left) (b:c.toNat=240):chNext x c=X ⟨3,144,191⟩:=by
 rw [qu h (by omega),if_pos (by omega),if_neg (by omega)]
theorem BX {x:Ch} {c:UInt8} (h:¬0<x.left) (b:c.toNat=244):chNext x c=X ⟨3,128,143⟩:=by
 rw [qu h (by omega),if_neg (by omega),if_pos (by omega)]
theorem BW {x:Ch} {c:UInt8} (h:¬0<x.left) (b:240<c.toNat/\c.toNat<244):chNext x c=X ⟨3,128,191⟩:=by
 rw [qu h (by omega),if_neg (by omega),if_neg (by omega)]
theorem uK (x:Ch) (l:Bs) (c:UInt8) (y:Ch) (h:chRun x l=X y):chRun x (l++[c])=chNext y c:=by
 induction l generalizing x with
 |nil=>simp only [chRun,bw] at h;subst h;simp only [List.nil_append,chRun];cases chNext x c<;>rfl
 |cons d l ih=>
  simp only [chRun,di] at h ⊢;cases hd:chNext x d with
  |none=>rw [hd] at h;cases h
  |some z=>rw [hd] at h;exact ih z h
theorem uL (l:Bs) (k:Nat) (y:Ch) (c:k<l.length):∀x,chRun x (l.take k)=X y->chNext y l[k]=Y->chRun x l=Y:=by
 induction l generalizing k with
 |nil=>simp at c
 |cons d l ih=>
  intro x h b;cases k with
  |zero=>simp only [List.take_zero,chRun,bw] at h;subst h;simp only [ex] at b;simp only [chRun,b]
  |succ k=>
   simp only [e6,chRun] at h ⊢;cases hd:chNext x d with
   |none=>rfl
   |some z=>rw [hd] at h;exact ih k (by simpa using c) z h (by simpa using b)
theorem zY (w:bb) (T:b8):tm (w.alloc (Obj.cells #[Value.int e0 0,Value.int e0 0,Value.int e0 0] T)) w.heap.size ch0:=by
 constructor<;>go_simp<;>simp [ch0]
theorem zX:kj ch0:=⟨by simp [ch0],by simp [ch0],by simp [ch0]⟩
theorem ux {l:Bs} {y:Ch} (h:chRun ch0 l=X y):aR l=decide (y.left=0):=by simp [aR,h]
theorem sh {l:Bs} (h:chRun ch0 l=Y):aR l=false:=by simp [aR,h]
def jq (lo b:Nat) (w w':bb):Prop:=∀k,lo<=k->k<b->w'.heap[k]? =w.heap[k]?
theorem aX {B b:Nat} {w w':bb} (h:Below B w w') (d:b<=B):jq 0 b w w':=λk _ c=>h.block k (by omega)
theorem jq.trans {lo b:Nat} {x y z:bb} (h:jq lo b x y) (k:jq lo b y z):jq lo b x z:=λi h1 c=>(k i h1 c).trans (h i h1 c)
theorem jq.mono {lo c e d:Nat} {w w':bb} (h:jq lo c w w') (h1:lo<=e) (f:d<=c):jq e d w w':=λk a b=>h k (by omega) (by omega)
theorem aw.kept {b lo c:Nat} {w w':bb} (h:aw b w w') (e:b<lo∨c<=b):jq lo c w w':=λk h1 d=>h.block k (by omega)
def aB (lo e:Nat) (w:bb) (v:bc) (n:Nat) (cs:List bc):Prop:=
 ∃a d,v=aC a n d/\(cs≠[]->∃b c,a=X ⟨b,c,Y⟩/\lo<=b/\b<e/\∀j x,cs[j]? =X x->w.cell? ⟨b,c+j,Y⟩=X x)
theorem aB.kept {lo c:Nat} {w w':bb} {v:bc} {n:Nat} {cs:List bc} (h:aB lo c w v n cs) (k:jq lo c w w'):aB lo c w' v n cs:=by
 obtain ⟨a,e,l,h⟩:=h;refine ⟨a,e,l,λi=>?_⟩;obtain ⟨b,p,g,h1,d,f⟩:=h i;exact ⟨b,p,g,h1,d,λj x m=>by rw [ca (w:=w) (k b h1 d)];exact f j x m⟩
theorem aB.mono {lo c e d:Nat} {w:bb} {v:bc} {n:Nat} {cs:List bc} (h:aB lo c w v n cs) (h1:e<=lo) (m:c<=d):aB e d w v n cs:=by
 obtain ⟨a,f,k,h⟩:=h;refine ⟨a,f,k,λj=>?_⟩;obtain ⟨b,l,i,p,q,g⟩:=h j;exact ⟨b,l,i,by omega,by omega,g⟩
def subCells (s:cB):List bc:=[J aS s.code.toNat,S s.text]
def aD (lo c:Nat) (w:bb) (v:bc) (b:List cB):Prop:=aB lo c w v b.length (b.flatMap subCells)
theorem aD.kept {lo b:Nat} {w w':bb} {v:bc} {c:List cB} (h:aD lo b w v c) (k:jq lo b w w'):aD lo b w' v c:=aB.kept h k
theorem aD.mono {lo b d c:Nat} {w:bb} {v:bc} {e:List cB} (h:aD lo b w v e) (h1:d<=lo) (f:b<=c):aD d c w v e:=aB.mono h h1 f
def fieldV (f:af) (d:bc):bc:= .agg #[S f.tag,S f.ind,S f.data,d]
def fieldCells (p:af×bc):List bc:=[S p.1.tag,S p.1.ind,S p.1.data,p.2]
def ai (lo c:Nat) (w:bb) (v:bc) (b:List af):Prop:=
 ∃ps:List (af×bc),ps.map (·.1)=b/\(∀p∈ps,aD lo c w p.2 p.1.subs)/\aB lo c w v b.length (ps.flatMap fieldCells)
theorem ai.kept {lo b:Nat} {w w':bb} {v:bc} {c:List af} (h:ai lo b w v c) (k:jq lo b w w'):ai lo b w' v c:=by
 obtain ⟨ps,h1,d,e⟩:=h;exact ⟨ps,h1,λp f=>(d p f).kept k,e.kept k⟩
theorem ai.mono {lo d f e:Nat} {w:bb} {v:bc} {b:List af} (h:ai lo d w v b) (h1:f<=lo) (c:d<=e):ai f e w v b:=by
 obtain ⟨ps,g,i,j⟩:=h;exact ⟨ps,g,λp k=>(i p k).mono h1 c,j.mono h1 c⟩
def fY (r:az) (x:bc):bc:= .agg #[J aS r.kind.toNat,J aS r.level.toNat,x]
def eA (lo b:Nat) (w:bb) (v:bc) (r:az):Prop:=∃x,v=fY r x/\ai lo b w x r.fields
theorem eA.kept {lo b:Nat} {w w':bb} {v:bc} {r:az} (h:eA lo b w v r) (k:jq lo b w w'):eA lo b w' v r:=by
 obtain ⟨x,h1,c⟩:=h;exact ⟨x,h1,c.kept k⟩
theorem eA.mono {lo b d c:Nat} {w:bb} {v:bc} {r:az} (h:eA lo b w v r) (h1:d<=lo) (e:b<=c):eA d c w v r:=by
 obtain ⟨x,f,g⟩:=h;exact ⟨x,f,g.mono h1 e⟩
theorem cJ {α:Type} (f:α->List bc) (k:Nat) (b:∀a,(f a).length=k) (l:List α) (i:Nat) (c:i<l.length) (j:Nat) (d:j<k):
 (l.flatMap f)[i * k+j]? =(f l[i])[j]? :=by
 induction l generalizing i with
 |nil=>simp at c
 |cons a l ih=>
  rw [cu];cases i with
  |zero=>rw [List.getElem?_append_left (by rw [b];omega)];simp
  |succ i=> rw [List.getElem?_append_right (by rw [b,Nat.succ_mul];omega),b];rw [show (i+1) * k+j - k=i * k+j from by rw [Nat.succ_mul];omega];rw [ih i (by simpa using c)];simp
theorem aD.sub {lo j:Nat} {w:bb} {v:bc} {c:List cB} (h:aD lo j w v c) (i:Nat) (f:i<c.length):
 ∃b d e,v=aC (X ⟨b,d,Y⟩) c.length e/\lo<=b/\b<j/\w.cell? ⟨b,d+i * 2,Y⟩=X (J aS c[i].code.toNat)/\w.cell? ⟨b,d+i * 2+1,Y⟩=X (S c[i].text):=by
 obtain ⟨a,e,r,h⟩:=h;have q:c.flatMap subCells≠[]:=by
  cases c with
  |nil=>simp at f
  |cons s l=>simp [subCells]
 obtain ⟨b,d,p,h1,n,g⟩:=h q;subst p;have k:=cJ subCells 2 (λ_=>rfl) c i f 0 (by omega);have m:=cJ subCells 2 (λ_=>rfl) c i f 1 (by omega);exact ⟨b,d,e,r,h1,n,g _ _ k,by rw [cv];exact g _ _ m⟩
theorem aV (w:bb) (o:Obj) (b i:Nat) (h:b<w.heap.size):(w.alloc o).cell? ⟨b,i,Y⟩=w.cell? ⟨b,i,Y⟩:=
 ca (w:=w) (Below.heap_alloc w o b h)
theorem bN (f:af) (k:Nat):(f.data++f.ind++(f.subs.take k).flatMap aU).length+1<=(fieldBytes f).length:=by
 have:((f.subs.take k).flatMap aU).length<=(f.subs.flatMap aU).length:=by
  conv=>rhs;rw [<- List.take_append_drop k f.subs]
  rw [e7,bD];omega
 simp only [fieldBytes,bD,List.length_singleton] at *;omega
theorem kf {α:Type} (g:α->Bs) (l:List α) (k:Nat) (h:k<l.length):(l.take (k+1)).flatMap g=(l.take k).flatMap g++g l[k]:=by
 rw [b1 h,e7];simp
theorem ai.field {lo k:Nat} {w:bb} {v:bc} {c:List af} (h:ai lo k w v c) (i:Nat) (u:i<c.length):
 ∃b e j d,v=aC (X ⟨b,e,Y⟩) c.length j/\lo<=b/\b<k/\w.cell? ⟨b,e+i * 4,Y⟩=X (S c[i].tag)/\w.cell? ⟨b,e+i * 4+1,Y⟩=X (S c[i].ind)/\
  w.cell? ⟨b,e+i * 4+2,Y⟩=X (S c[i].data)/\w.cell? ⟨b,e+i * 4+3,Y⟩=X d/\aD lo k w d c[i].subs:=by
 obtain ⟨ps,rfl,A,a,j,C,h⟩:=h;have f:i<ps.length:=by simpa using u
 have x:ps.flatMap fieldCells≠[]:=by
  cases ps with
  |nil=>simp at f
  |cons s l=>simp [fieldCells]
 obtain ⟨b,e,t,h1,r,g⟩:=h x;subst t;have m:=cJ fieldCells 4 (λ_=>rfl) ps i f 0 (by omega);have n:=cJ fieldCells 4 (λ_=>rfl) ps i f 1 (by omega);have p:=cJ fieldCells 4 (λ_=>rfl) ps i f 2 (by omega);have q:=cJ fieldCells 4 (λ_=>rfl) ps i f 3 (by omega);have y:=A _ (dc f);simp only [List.getElem_map];exact ⟨b,e,j,ps[i].2,C,h1,r,g _ _ m,by rw [cv];exact g _ _ n,by rw [cv];exact g _ _ p,by rw [cv];exact g _ _ q,y⟩
theorem ai.shape {lo d:Nat} {w:bb} {v:bc} {c:List af} (h:ai lo d w v c):∃a b,v=aC a c.length b:=by
 obtain ⟨_,_,_,a,b,e,_⟩:=h;exact ⟨a,b,e⟩
def bR (b:List af):Prop:=b.length<=1000000/\∀f∈b,(fieldBytes f).length<=1000000
theorem cM (f:af):f.subs.length<=(fieldBytes f).length:=by
 have:∀l:List cB,l.length<=(l.flatMap aU).length:=by
  intro l;induction l with
  |nil=>simp
  |cons s l ih=>rw [cu,bD];simp only [aU,cb];omega
 have:=this f.subs;simp only [fieldBytes,bD];omega
theorem ey {l:List af} (h:aI l=0):∀f∈l,wrongF f=0:=by
 induction l with
 |nil=>simp
 |cons g l ih=>
  simp only [aI] at h;intro f b;by_cases hg:wrongF g=0
  · rw [if_pos hg] at h;rcases List.mem_cons.1 b with rfl|b
    · exact hg
    · exact ih h f b
  · rw [if_neg hg] at h;exact absurd h hg
theorem ly {f:af} (h:wrongF f=0):bu f.tag=true:=by
 cases ht:bu f.tag with
 |true=>rfl
 |false=>simp [wrongF,ht] at h
theorem qm (p:Nat) (l:List af) (f:af):dq p (l++[f])=dq p l++(f.tag++fixedN 4 (fieldBytes f).length++fixedN 5 (p+(dataOf l).length)):=by
 induction l generalizing p with
 |nil=>simp [dq,dataOf]
 |cons g l ih=> simp only [di,dq,ih,dataOf,cu,bD];simp [cv]
theorem sG (l:List af) (f:af):dataOf (l++[f])=dataOf l++fieldBytes f:=by simp [dataOf]
theorem io (l:List af):sizeOf l=26+12 * l.length+(dataOf l).length:=by
 have:∀(l:List af) n,l.foldl (λn f=>n+12+(fieldBytes f).length) n=n+12 * l.length+(dataOf l).length:=by
  intro l;induction l with
  |nil=>simp [dataOf]
  |cons g l ih=>intro n;rw [List.foldl_cons,ih];simp [dataOf];omega
 exact this l 26
theorem fI {l:Bs} (h:bu l=true):l.length=3:=by simp [bu] at h;exact h.1.1
structure CG (r:az):Prop where
 kind:letterB r.kind=true
 level:letterB r.level=true
 fields:∀f∈r.fields,wrongF f=0
 long:∀f∈r.fields,(fieldBytes f).length<=9999
 many:r.fields.length<=999
 size:26+12 * r.fields.length+(dataOf r.fields).length<=99999
theorem yF {r:az} (h:wrongR r=0):CG r:=by
 unfold wrongR at h;split at h
 · simp at h
 · rename_i h1;split at h
   · rename_i c;exact absurd h c
   · rename_i c;split at h
     · simp at h
     · rename_i d;simp only [cd,b5,not_or,Bool.not_eq_false,decide_eq_true_eq,Bool.not_eq_true] at h1 d;have e:aI r.fields=0:=by omega
       refine ⟨h1.1,h1.2,ey e,?_,by omega,by rw [<- io];omega⟩;intro f g;have b:=d.1.1;unfold bL at b;rw [List.any_eq_false] at b;simpa using b f g
def dirP:List (af×Nat)->Bs
 |[]=>[]
 |(f,p)::l=>f.tag++fixedN 4 (fieldBytes f).length++fixedN 5 p++dirP l
structure CK where
 a:UInt8
 b:UInt8
 c:UInt8
 d:UInt8
 e:UInt8
def BU (f base:Nat) (k l:UInt8) (x:CK):Bs:=fixedN 5 f++[x.a,k,l,x.b,97,50,50]++fixedN 5 base++[x.c,x.d,x.e,52,53,48,48]
def vI (k l:UInt8) (x:CK) (ps:List (af×Nat)) (data:Bs):Bs:=
 BU (25+12 * ps.length+data.length+1) (25+12 * ps.length) k l x++dirP ps++[30]++data++[29]
def sumLen (ps:List (af×Nat)):Nat:=(ps.map λp=>(fieldBytes p.1).length).sum
structure CJ (k l:UInt8) (ps:List (af×Nat)) (data:Bs):Prop where
 kind:letterB k=true
 level:letterB l=true
 right:∀p∈ps,wrongF p.1=0
 long:∀p∈ps,(fieldBytes p.1).length<=9999
 lies:∀p∈ps,(data.drop p.2).take (fieldBytes p.1).length=fieldBytes p.1
 many:ps.length<=999
 size:26+12 * ps.length+data.length<=99999
 sum:sumLen ps<=data.length
theorem kM {ps:List (af×Nat)} (h:∀p∈ps,wrongF p.1=0):(dirP ps).length=12 * ps.length:=by
 induction ps with
 |nil=>rfl
 |cons p ps ih=> obtain ⟨f,k⟩:=p;have:=fI (ly (h _ (bB)));have:=ih (λp b=>h p (b6 _ b));simp only [dirP,bD,cV,cb] at *;omega
theorem sc {k l:UInt8} {x:CK} {ps:List (af×Nat)} {data:Bs} (h:∀p∈ps,wrongF p.1=0):(vI k l x ps data).length=26+12 * ps.length+data.length:=by
 have:=kM h;simp only [vI,BU,bD,cV,cb,List.length_nil];omega
def placesFrom:Nat->List af->List (af×Nat)
 |_,[]=>[]
 |p,f::l=>(f,p)::placesFrom (p+(fieldBytes f).length) l
theorem iZ (b:List af):∀p,(placesFrom p b).map (·.1)=b:=by
 induction b with
 |nil=>intro p;rfl
 |cons f b ih=>intro p;simp [placesFrom,ih]
theorem du (b:List af) (p:Nat):(placesFrom p b).length=b.length:=by
 have:=congrArg List.length (iZ b p);simpa using this
theorem iY {b:List af} {p:Nat} {q:af×Nat} (h:q∈placesFrom p b):q.1∈b:=by
 have:=List.mem_map_of_mem (f:=(·.1)) h;rwa [iZ] at this
theorem kL (b:List af):∀p,dirP (placesFrom p b)=dq p b:=by
 induction b with
 |nil=>intro p;rfl
 |cons f b ih=>intro p;simp [placesFrom,dirP,dq,ih]
theorem ng (b:List af):∀p,sumLen (placesFrom p b)=(dataOf b).length:=by
 induction b with
 |nil=>intro p;rfl
 |cons f b ih=>intro p;have:=ih (p+(fieldBytes f).length);simp only [placesFrom,sumLen,b4,List.sum_cons,dataOf,cu,bD] at *;omega
theorem rH (rest:Bs):∀(b:List af) (c:Bs),∀q∈placesFrom c.length b,((c++(dataOf b++rest)).drop q.2).take (fieldBytes q.1).length=fieldBytes q.1:=by
 intro b;induction b with
 |nil=>intro c q h;cases h
 |cons f b ih=>
  intro c q h;simp only [placesFrom,bA] at h;rcases h with rfl|h
  · simp [dataOf]
  · have:=ih (c++fieldBytes f) q (by simpa using h);simpa [dataOf] using this
theorem qM {r:az} (h:∀f∈r.fields,wrongF f=0):iR r=vI r.kind r.level ⟨110,32,32,32,32⟩ (placesFrom 0 r.fields) (dataOf r.fields):=by
 have b:=kM (ps:=placesFrom 0 r.fields) (λp c=>h _ (iY c));rw [kL,du] at b;unfold iR vI;rw [kL,du,b];rfl
theorem tT {r:az} (h:wrongR r=0):CJ r.kind r.level (placesFrom 0 r.fields) (dataOf r.fields):=by
 unfold wrongR at h;split at h
 · cases h
 · rename_i b;simp only [cd,b5,not_or,Bool.not_eq_false] at b;split at h
   · exact absurd h ‹_›
   · rename_i g;have i:aI r.fields=0:=by simpa using g
     split at h
     · cases h
     · rename_i d;simp only [cd,decide_eq_true_eq,not_or,Bool.not_eq_true] at d;obtain ⟨⟨h1,j⟩,e⟩:=d;have f:=ey i;refine ⟨b.1,b.2,λp c=>f _ (iY c),λp c=>?_,?_,by rw [du];omega,?_,by rw [ng];exact c5 _⟩
       · have:=iY c;unfold bL at h1;rw [List.any_eq_false] at h1;have:=h1 _ this;simpa using this
       · have:=rH [] r.fields [];simpa using this
       · rw [du];rw [io] at e;omega
theorem oO {r:az} (h:wrongR r=0):(iR r).length=26+12 * r.fields.length+(dataOf r.fields).length/\(iR r).length<=99999:=by
 have b:=tT h;have e:∀f∈r.fields,wrongF f=0:=by intro f c;rw [<- iZ r.fields 0] at c;obtain ⟨p,d,rfl⟩:=List.mem_map.1 c;exact b.right p d
 have:=sc (k:=r.kind) (l:=r.level) (x:=⟨110,32,32,32,32⟩) (data:=dataOf r.fields) b.right;have g:=b.size;rw [du] at *;rw [qM e,this];exact ⟨rfl,by omega⟩
def fR (s:ByteArray):Nat->List Nat->Prop
 |pos,[]=>pos=s.size
 |pos,c::rs=>pos<s.size/\(c4 s pos).1=c/\pos<pos+(c4 s pos).2/\pos+(c4 s pos).2<=s.size/\fR s (pos+(c4 s pos).2) rs
def runesF:Nat->Bs->List Nat
 |0,_=>[]
 |f+1,l=>if l=[] then [] else (dz l).1::runesF f (l.drop (dz l).2)
def runesR (l:Bs):List Nat:=runesF l.length l
theorem ec (l:Bs) (b:Nat):c4 ⟨l.toArray⟩ b=dz (l.drop b):=by
 rw [<- Lib.decodeL_drop]
theorem pu (l:Bs):∀(f b:Nat),b<=l.length->l.length - b<=f->fR ⟨l.toArray⟩ b (runesF f (l.drop b)):=by
 intro f;induction f with
 |zero=>intro b h1 d;show b=l.length;omega
 |succ f ih=>
  intro b h1 d;unfold runesF;by_cases hp:b=l.length
  · rw [if_pos (by rw [hp];simp)];exact hp
  · have c:l.drop b≠[]:=by intro e;have:=congrArg List.length e;simp at this;omega
    rw [if_neg c];have h:=Lib.decodeL_width (l.drop b);have g:=Lib.decodeL_le (l.drop b) c;rw [List.length_drop] at g;refine ⟨by show b<l.length;omega,by rw [ec],by rw [ec];omega,by rw [ec];show _<=l.length;omega,?_⟩;rw [ec,List.drop_drop];exact ih _ (by omega) (by omega)
theorem gB (l:Bs):fR ⟨l.toArray⟩ 0 (runesR l):=by
 have:=pu l l.length 0 (Nat.zero_le _) (by omega);simpa [runesR] using this
theorem tP (f:Nat) (l:Bs):(runesF f l).length<=l.length:=by
 induction f generalizing l with
 |zero=>exact Nat.zero_le _
 |succ f ih=>
  unfold runesF;split
  · simp
  · rename_i b;have d:=Lib.decodeL_width l;have:=ih (l.drop (dz l).2);have c:0<l.length:=List.length_pos_iff.2 b;simp only [cb,List.length_drop] at *;omega
theorem lR (l:Bs):(runesR l).length<=l.length:=tP _ _
theorem wG (f:Nat) (l:Bs):∀c∈runesF f l,c<=1114111:=by
 induction f generalizing l with
 |zero=>intro c b;cases b
 |succ f ih=>
  intro c b;unfold runesF at b;split at b
  · cases b
  · rcases List.mem_cons.1 b with rfl|b
    · exact Lib.decodeL_rune l
    · exact ih _ c b
theorem wF (l:Bs):∀c∈runesR l,c<=1114111:=wG _ _
def qF (x:ByteArray):Bs:=x.data.toList
def enc (c:Nat):Bs:=qF (Utf8.encode (c:Int))
def rowsK:List (Bs×List Nat):=[
 ([97],[224,225,226,227,228,229,257,259,261,192,193,194,195,196,197,256,258,260]),
 ([99],[231,263,265,267,269,199,262,264,266,268]),
 ([100],[271,273,240,270,272,208]),
 ([101],[232,233,234,235,275,277,279,281,283,200,201,202,203,274,276,278,280,282]),
 ([103],[285,287,289,291,284,286,288,290]),
 ([104],[293,295,292,294]),
 ([105],[236,237,238,239,297,299,301,303,305,204,205,206,207,296,298,300,302,304]),
 ([106],[309,308]),
 ([107],[311,310]),
 ([108],[314,316,318,322,313,315,317,321]),
 ([110],[241,324,326,328,209,323,325,327]),
 ([111],[242,243,244,245,246,248,333,335,337,417,210,211,212,213,214,216,332,334,336,416]),
 ([114],[341,343,345,340,342,344]),
 ([115],[347,349,351,353,346,348,350,352]),
 ([116],[355,357,359,354,356,358]),
 ([117],[249,250,251,252,361,363,365,367,369,371,432,217,218,219,220,360,362,364,366,368,370,431]),
 ([119],[373,372]),
 ([121],[253,255,375,221,376,374]),
 ([122],[378,380,382,377,379,381]),
 ([97,101],[230,198]),
 ([111,101],[339,338]),
 ([115,115],[223]),
 ([116,104],[254,222]),
 ([206,177],[940,902]),
 ([206,181],[941,904]),
 ([206,183],[942,905]),
 ([206,185],[943,970,912,906,938]),
 ([206,191],[972,908]),
 ([207,133],[973,971,944,910,939]),
 ([207,137],[974,911]),
 ([208,181],[1105,1025])]
def rowIn (c:Nat):List (Bs×List Nat)->Option Bs
 |[]=>Y
 |(s,l)::t=>if l.contains c then X s else rowIn c t
def bC (c:Nat):Bs:=
 if (97<=c/\c<=122)∨(48<=c/\c<=57) then enc c
 else if 65<=c/\c<=90 then enc (c+32)
 else if c<128 then [32]
 else if (768<=c/\c<=879)∨(65056<=c/\c<=65071) then []
 else match rowIn c rowsK with
  |some s=>s
  |none=>if c=962 then enc 963
   else if (945<=c/\c<=969)∨(1072<=c/\c<=1103) then enc c
   else if (913<=c/\c<=937/\c≠930)∨(1040<=c/\c<=1071) then enc (c+32)
   else [32]
def bg:List Nat->Bs->List Bs
 |[],w=>if w=[] then [] else [w]
 |c::l,w=>if bC c=[32] then (if w=[] then bg l [] else w::bg l []) else bg l (w++bC c)
def be (s:Bs):List Bs:=bg (runesR s) []
def dI:List Bs->Bs
 |[]=>[]
 |[a]=>a
 |a::b::l=>a++[32]++dI (b::l)
def gm (w:Bs):Bool:=w.all digitB
def stripR:Bs->Bs
 |[]=>[]
 |[c]=>[c]
 |c::d::l=>if c=48 then stripR (d::l) else c::d::l
def fD (w:Bs):Bs:=if gm w then bs (48+min (stripR w).length 99 / 10)::bs (48+min (stripR w).length 99%10)::stripR w else w
def gA (s:Bs) (skip:Nat):Bs:=dI ((be (s.drop skip)).map fD)
def xB (c:UInt8):Bool:=decide (c=88)||decide (c=120)
def isbnGo:Bs->Bs
 |[]=>[]
 |c::l=>if digitB c||xB c then c::isbnGo l else if c=32∨c=45 then isbnGo l else []
def valB (c:UInt8):Nat:=c.toNat - 48
def checkGo:Nat->Bs->Nat
 |_,[]=>0
 |k,c::l=>valB c * (1+2 * (k%2))+checkGo (k+1) l
def checkR (s:Bs):UInt8:=bs (48+(10 - checkGo 0 (s.take 12)%10)%10)
def q8:Nat->Bs->Nat
 |_,[]=>0
 |k,c::l=>(10 - k) * (if xB c then 10 else valB c)+q8 (k+1) l
def Aq (s:Bs):Bool:=decide (q8 0 s%11=0)&&(s.take 9).all digitB
def isbnR (s:Bs):Option Bs:=
 let o:=isbnGo s
 if o.length=10/\Aq o then X ([57,55,56]++o.take 9++[checkR ([57,55,56]++o.take 9)])
 else if o.length=13/\gm o/\checkR o=o.getD 12 0 then X o
 else Y
def firstF (b:List af) (c:Bs):Option af:=b.find? λf=>f.tag==c
def textS (c:List cB) (b:Bs):Bs:=dI ((c.filter λs=>b.contains s.code).map cB.text)
def textF (f:Option af) (b:Bs):Bs:=match f with
 |some f=>textS f.subs b
 |none=>[]
def ck:Bs:=[50,52,53]
def dW:Bs:=[49,48,48]
def eu:Bs:=[48,50,48]
def lK:Bs:=[48,48,56]
def lJ:Bs:=[50,54,48]
def yz (f:Option af):Nat:=match f with
 |some f=>match f.ind with
  |_::c::_=>if digitB c then c.toNat - 48 else 0
  |_=>0
 |none=>0
def aQ (b:List af):Bs:=gA (textF (firstF b ck) [97,98]) (yz (firstF b ck))
def qC (f:af):List Bs:=if f.tag=eu then f.subs.filterMap λs=>if s.code=97 then isbnR s.text else Y else []
def booksR (b:List af):List Bs:=b.flatMap qC
def bx (b:List af):List Bs:=be (textF (firstF b dW) [97])
def isbnK (n:Bs):Bs:=[105,115,98,110,32]++n
def oZ (b:List af):Bs:=[116,105,116,108,101,32]++aQ b++[32,47,32]++(bx b).headD []
def rawR (b:List af):List Bs:=(booksR b).map isbnK++(if aQ b=[] then [] else [oZ b])
def aO (s:Bs):Int:=if s.length=4/\s.all digitB then s.foldl (λn c=>10 * n+((c.toNat:Int) - 48)) 0 else -1
def bn:Bs->Int
 |[]=> -1
 |c::l=>if 0<=aO ((c::l).take 4) then aO ((c::l).take 4) else bn l
def jr (b:List af):Int:=match firstF b lK with
 |some f=>if 11<=f.data.length then aO (CO f.data 7 11) else -1
 |none=> -1
def bH (b:List af):Int:=if 0<=jr b then jr b else bn (textF (firstF b lJ) [99])
def bookPts (m n:List Bs):Int:=if m=[]∨n=[] then 0 else if m.any n.contains then 50 else -30
def titlePts (s t:Bs):Int:=if s=[]∨t=[] then 0 else if s=t then 30 else -20
def authorPts (v w:List Bs):Int:=if v=[]∨w=[] then 0 else if v=w then 15 else if v.headD []=w.headD [] then 8 else -15
def yearPts (x y:Int):Int:=if x<0∨y<0 then 0 else if x=y then 10 else if x - y=1∨y - x=1 then 0 else -10
def pointsR (a b:az):Int:=
 bookPts (booksR a.fields) (booksR b.fields)+titlePts (aQ a.fields) (aQ b.fields)+authorPts (bx a.fields) (bx b.fields)+yearPts (bH a.fields) (bH b.fields)+(if a.kind=b.kind then 0 else -40)
def uj (a b:az):Bool:=(rawR a.fields).any (rawR b.fields).contains&&decide (40<=pointsR a b)
def ga (l:List az) (n i:Nat):List (Nat×Nat):=((b2 n).filter λk=>decide (i<k)&&uj (l.getD i ⟨0,0,[]⟩) (l.getD k ⟨0,0,[]⟩)).map λk=>(i,k)
def pairsR (l:List az):List (Nat×Nat):=(b2 l.length).flatMap (ga l l.length)
end
section
open Go.RowKit Go.Maps Go.WideShapes
open Go.ChangeMaps (putKey delKey notKey)
set_option linter.unusedSectionVars false
def heldR (v:bc):Option (DataW bc×List MemPlace):=X (.held v,[])
structure ez (P:dy) (kt:b8) (K:Type) where
 kv:K->bc
 kl:K->Lit
 ok:K->Prop
 keyed:Keyed P kt
 key:∀k,ok k->keyOf P kt (kv k)=some (kl k)
 inj:∀a b,kv a=kv b->a=b
section
variable {P:dy} {kt:b8} {K:Type} [DecidableEq K] (B:ez P kt K)
theorem ez.lit_inj {a b:K} (c:B.ok a) (d:B.ok b) (h:B.kl a=B.kl b):a=b:=
 B.inj _ _ (B.keyed.inj (B.key a c) (h ▸ B.key b d))
def ez.entries (l:List (K×bc)):List (Lit×DataW bc):=l.map λp=>(B.kl p.1, .held p.2)
def ak (w:bb) (b:Nat) (l:List (K×bc)):Prop:=
 ∃c,w.ownsMap P kt heldR b l.length (.map c)/\c.Perm (B.entries l)/\∀p∈l,B.ok p.1
def lookL (l:List (K×bc)) (k:K):Option bc:=(l.find? λp=>decide (p.1=k)).map (·.2)
def cn (l:List (K×bc)) (k:K):List (K×bc):=l.filter λp=> !decide (p.1=k)
def putL (l:List (K×bc)) (k:K) (v:bc):List (K×bc):=cn l k++[(k,v)]
variable {B}
theorem ak.lt {w:bb} {b:Nat} {l:List (K×bc)} (h:ak B w b l):b<w.heap.size:=by obtain ⟨c,h1,_⟩:=h;exact h1.lt
theorem ak.ok {w:bb} {b:Nat} {l:List (K×bc)} (h:ak B w b l):∀p∈l,B.ok p.1:=by obtain ⟨d,_,_,c⟩:=h;exact c
theorem ak.made (w:bb):ak B (w.alloc (.map #[] 0)) w.heap.size []:=⟨[],World.ownsMap_made _ _ _ _, .refl _,λp b=>by cases b⟩
theorem ak.block {w w':bb} {b:Nat} {l:List (K×bc)} (h:ak B w b l) (i:w'.heap[b]? =w.heap[b]?):ak B w' b l:=by
 obtain ⟨d,⟨e,c,h1,f⟩,g⟩:=h;exact ⟨d,⟨e,c,i.trans h1,f⟩,g⟩
theorem ak.alloc {w:bb} {b:Nat} {l:List (K×bc)} (h:ak B w b l) (o:Obj):ak B (w.alloc o) b l:=h.block (Below.heap_alloc w o b h.lt)
theorem ak.drew {w:bb} {b:Nat} {l:List (K×bc)} (h:ak B w b l):ak B w.drew b l:=h.block rfl
theorem ak.setCell {w:bb} {b:Nat} {l:List (K×bc)} (h:ak B w b l) {a:Addr} (c:b≠a.block) (u:bc):ak B (w.setCell a u) b l:=h.block (e9 _ _ _ _ c)
theorem ak.perm {w:bb} {b:Nat} {l d:List (K×bc)} (h:ak B w b l) (c:l.Perm d):ak B w b d:=by
 obtain ⟨e,h1,f,g⟩:=h;exact ⟨e,c.length_eq ▸ h1,f.trans (c.map _),λp i=>g p (c.mem_iff.2 i)⟩
theorem ak.nodup {w:bb} {b:Nat} {l:List (K×bc)} (h:ak B w b l):(l.map (·.1)).Nodup:=by
 obtain ⟨i,h1,f,k⟩:=h;obtain ⟨j,e,g,_⟩:=h1.entries B.keyed;cases e;have c:(B.entries l).Pairwise (λp q=>p.1≠q.1):=(f.pairwise_iff (λ{_ _} d=>Ne.symm d)).1 g;unfold ez.entries at c;rw [b3] at c;rw [List.Nodup,b3];exact c.imp λ{a b} d e=>d (congrArg B.kl e)
theorem bl {l:List (K×bc)} (b:(l.map (·.1)).Nodup) {k:K} {v:bc}:lookL l k=X v↔(k,v)∈l:=by
 induction l with
 |nil=>simp [lookL]
 |cons p l ih=>
  rw [b4,List.nodup_cons] at b;have ih:=ih b.2;unfold lookL at ih ⊢;rw [cP];by_cases e:p.1=k
  · simp only [e,decide_true,Option.map_some,bw,bA];constructor
    · rintro rfl;exact .inl (by rw [<- e])
    · rintro (h|h)
      · rw [<- h]
      · exact absurd (List.mem_map.2 ⟨_,h,e.symm⟩) b.1
  · simp only [e,decide_false,bA];rw [ih];constructor
    · exact .inr
    · rintro (h|h)
      · exact absurd (by rw [<- h]) e
      · exact h
theorem ir {l:List (K×bc)} {k:K}:lookL l k=Y↔∀v,(k,v)∉l:=by
 unfold lookL;rw [Option.map_eq_none_iff,cl];constructor
 · intro h v b;exact h _ b (by simp)
 · intro h p c e;simp at e;exact h p.2 (by rw [<- e];exact c)
theorem ak.at_some {w:bb} {b:Nat} {l:List (K×bc)} {c:List (Lit×DataW bc)} (h1:w.ownsMap P kt heldR b l.length (.map c)) (d:c.Perm (B.entries l)) (h:(l.map (·.1)).Nodup) {k:K} (g:B.ok k) {v:bc} (i:lookL l k=X v) (z:DataW bc):
 (DataW.map c).atKey (B.kl k) z= .held v:=by
 obtain ⟨j,e,f,_⟩:=h1.entries B.keyed;cases e;exact WideAt.atKey_mem z (B.keyed.key (B.key k g)) f (d.mem_iff.2 (List.mem_map.2 ⟨_,(bl h).1 i,rfl⟩))
theorem ak.at_none {b:List (Lit×DataW bc)} {l:List (K×bc)} (h:b.Perm (B.entries l)) (i:∀p∈l,B.ok p.1) {k:K} (j:B.ok k) (n:lookL l k=Y) (z:DataW bc):
 (DataW.map b).atKey (B.kl k) z=z:=by
 unfold DataW.atKey;have:b.find? (λp=>p.1.sameKey (B.kl k))=Y:=by rw [cl];intro p m e;obtain ⟨q,d,f⟩:=List.mem_map.1 (h.mem_iff.1 m);have c:=e5 e;rw [<- f] at c;have g:=B.lit_inj (i q d) j c;exact ir.1 n q.2 (by rw [<- g];exact d)
 simp [this]
theorem ak.look_ok {w:bb} {b:Nat} {l:List (K×bc)} (h:ak B w b l) {t e:b8} (m:P.underlying t=X (.map kt e)) {z:bc} (n:(zeroValue e).run P w= .ok z w) (k:K) (d:B.ok k):
 (Instr.lookup t (aT (X b)) (B.kv k) true).run P w= .ok (.tuple #[(lookL l k).getD z,ax (lookL l k).isSome]) w:=by
 have i:=h.nodup;obtain ⟨p,h1,f,g⟩:=h;obtain ⟨v,ps,j,c⟩:=h1.look_ok B.keyed m n (zd:= .held z) (zp:=[]) rfl (B.key k d);rw [j];cases hl:lookL l k with
 |none=> rw [ak.at_none f g d hl] at c;simp only [heldR,bw,cp,cm] at c;rw [c.1,Maps.has_false_of_atKey (λz=>ak.at_none f g d hl z)];rfl
 |some x=> rw [ak.at_some h1 f i d hl] at c;simp only [heldR,bw,cp,cm] at c;rw [c.1,er (λz=>ak.at_some h1 f i d hl z)];rfl
theorem ak.look {w:bb} {b:Nat} {l:List (K×bc)} (h:ak B w b l) {t e:b8} (m:P.underlying t=X (.map kt e)) {z:bc} (n:(zeroValue e).run P w= .ok z w) (k:K) (d:B.ok k):
 (Instr.lookup t (aT (X b)) (B.kv k) false).run P w= .ok ((lookL l k).getD z) w:=by
 have i:=h.nodup;obtain ⟨p,h1,f,g⟩:=h;obtain ⟨v,ps,j,c⟩:=h1.lookup B.keyed m n (zd:= .held z) (zp:=[]) rfl (B.key k d);rw [j];cases hl:lookL l k with
 |none=> rw [ak.at_none f g d hl] at c;simp only [heldR,bw,cp,cm] at c;rw [c.1];rfl
 |some x=> rw [ak.at_some h1 f i d hl] at c;simp only [heldR,bw,cp,cm] at c;rw [c.1];rfl
theorem ak.size {b:List (Lit×DataW bc)} {l:List (K×bc)} (c:b.Perm (B.entries l)):Maps.size (DataW.map b)=l.length:=by
 show b.length=_;rw [c.length_eq];unfold ez.entries;simp
theorem kN {l:List (K×bc)} (c:∀p∈l,B.ok p.1) {k:K} (b:B.ok k):(B.entries l).filter (notKey (B.kl k))=B.entries (cn l k):=by
 induction l with
 |nil=>rfl
 |cons p l ih=>
  have ih:=ih λq g=>c q (b6 _ g);have f:=c p bB;show List.filter _ ((B.kl p.1,DataW.held p.2)::B.entries l)=_;unfold cn;rw [dd,dd];by_cases e:p.1=k
  · rw [if_neg (by rw [Maps.notKey_iff (B.keyed.key (B.key k b))];simp [e]),if_neg (by simp [e])];exact ih
  · rw [if_pos (by rw [Maps.notKey_iff (B.keyed.key (B.key k b))];exact λd=>e (B.lit_inj f b d)),if_pos (by simp [e]),ih];rfl
theorem yJ {b:List (Lit×DataW bc)} {l:List (K×bc)} (d:b.Perm (B.entries l)) (e:∀p∈l,B.ok p.1) {k:K} (f:B.ok k) (v:bc):
 (putKey (B.kl k) (.held v) b).Perm (B.entries (putL l k v)):=by
 unfold putKey putL;refine (insert_perm _ _).trans ?_;have c:=d.filter (notKey (B.kl k));rw [kN e f] at c;refine (c.cons _).trans ?_;unfold ez.entries;rw [List.map_append];exact (List.perm_append_comm (l₁:=[(B.kl k,DataW.held v)]) (l₂:=List.map _ (cn l k)))
theorem ak.of_owns {w:bb} {b n:Nat} {l:List (K×bc)} {d:List (Lit×DataW bc)} (h1:w.ownsMap P kt heldR b n (.map d)) (g:d.Perm (B.entries l)) (j:∀p∈l,B.ok p.1):ak B w b l:=by
 refine ⟨d,?_,g,j⟩;obtain ⟨f,c,h,i,k,e⟩:=h1;refine ⟨f,c,h,i,?_,e⟩;have:d.length=f.size:=by injection e with e;rw [e,length_sorted];simp
 have m:d.length=l.length:=by rw [g.length_eq];unfold ez.entries;simp
 omega
theorem ak.put_of {w':bb} {b n:Nat} {l:List (K×bc)} {d:List (Lit×DataW bc)} (g:d.Perm (B.entries l)) (e:∀p∈l,B.ok p.1) {k:K} (f:B.ok k) (v:bc) (h:w'.ownsMap P kt heldR b n ((DataW.map d).put (B.kl k) (.held v))):ak B w' b (putL l k v):=by
 rw [DataW.put_eq] at h;refine ak.of_owns h (yJ g e f v) λp c=>?_;unfold putL cn at c;rcases List.mem_append.1 c with c|c
 · exact e p (List.mem_filter.1 c).1
 · rw [List.mem_singleton.1 c];exact f
theorem ak.del_of {w':bb} {b n:Nat} {l:List (K×bc)} {c:List (Lit×DataW bc)} (f:c.Perm (B.entries l)) (d:∀p∈l,B.ok p.1) {k:K} (g:B.ok k) (h:w'.ownsMap P kt heldR b n ((DataW.map c).del (B.kl k))):ak B w' b (cn l k):=by
 rw [DataW.del_eq] at h;refine ak.of_owns h ?_ λp i=>d p (List.mem_filter.1 i).1;unfold delKey;have e:=f.filter (notKey (B.kl k));rw [kN d g] at e;exact e
variable (w:bb) {ops:Array Oper} {rest:List Oper} {o:Oper} {a:Act} {Q:Exit->Act->bb->Prop}
theorem cX (f:o.guard=Y) (m x:fc) (t:b8) (j:o.op=Op.lookup t m x true) (e:b8) (p:P.underlying t=X (.map kt e)) {z:bc} (r:(zeroValue e).run P w= .ok z w)
 (b:Nat) (l:List (K×bc)) (i:a.eval m=aT (X b)) (h:ak B w b l) (k:K) (g:B.ok k) (q:a.eval x=B.kv k)
 (c:wpList P ops Q rest (a.put o.dst (.tuple #[(lookL l k).getD z,ax (lookL l k).isSome])) w):wpList P ops Q (o::rest) a w:=by
 refine wpList_plain f λs d=>?_;have n:=h.look_ok p r k g;unfold Oper.wp;simp [execOp,j,i,q,n,dp];exact d _ _ c
theorem uV (n:o.guard=Y) (m x v:fc) (t:b8) (r:o.op=Op.mapUpdate t m x v) (e:b8) (s:P.underlying t=X (.map kt e))
 (b:Nat) (l:List (K×bc)) (p:a.eval m=aT (X b)) (h:ak B w b l) (q:l.length<maxLen) (k:K) (c:B.ok k) (A:a.eval x=B.kv k) (y:bc) (u:a.eval v=y)
 (j:∀w',ak B w' b (putL l k y)->w.mapTurned w' b->wpList P ops Q rest (a.put o.dst undef) w'):wpList P ops Q (o::rest) a w:=by
 obtain ⟨C,h1,d,f⟩:=h;exact wpList_mapUpdate_in w n m x v t r kt e B.keyed s heldR b _ _ p h1 q (B.kv k) y (B.kl k) A u (B.key k c) (.held y) [] rfl λw' g i=>j w' (ak.put_of d f c y g) i
def ct (B:ez P kt K) (w:bb) (b r:Nat) (l left:List (K×bc)):Prop:=
 ∃c f d,w.ranges P kt heldR b r l.length (.map c) f d/\c.Perm (B.entries l)/\(∀p∈l,B.ok p.1)/\left.Sublist l/\(∀p∈l,f (B.kl p.1)=true↔p∈left)/\∀z,f z=true->∃p∈left,B.kl p.1=z
theorem ct.map {w:bb} {b r:Nat} {l left:List (K×bc)} (h:ct B w b r l left):ak B w b l:=by
 obtain ⟨c,f,g,h1,d,e,_⟩:=h;exact ⟨c,h1.owns,d,e⟩
theorem ct.lt {w:bb} {b r:Nat} {l left:List (K×bc)} (h:ct B w b r l left):r<w.heap.size:=by
 obtain ⟨d,f,c,h1,_⟩:=h;exact h1.lt
theorem ct.ne {w:bb} {b r:Nat} {l left:List (K×bc)} (h:ct B w b r l left):r≠b:=by
 obtain ⟨d,f,c,h1,_⟩:=h;exact h1.ne
theorem ct.kept {w w':bb} {b r:Nat} {l left:List (K×bc)} (h:ct B w b r l left) (s:w'.heap[b]? =w.heap[b]?) (t:w'.heap[r]? =w.heap[r]?):ct B w' b r l left:=by
 obtain ⟨g,f,d,⟨e,c1,u,v,c,i,j,k,m,n,p⟩,q⟩:=h;exact ⟨g,f,d,⟨e,c1,u,v,c,s.trans i,j,k,m,t.trans n,p⟩,q⟩
theorem nB (x:o.guard=Y) (m:fc) (t:b8) (C:o.op=Op.range t m) (e:b8) (E:P.underlying t=X (.map kt e))
 (b:Nat) (l:List (K×bc)) (A:a.eval m=aT (X b)) (h:ak B w b l)
 (v:∀w',ct B w' b w.heap.size l l->Bw w w'->w'.heap.size=w.heap.size+1->wpList P ops Q rest (a.put o.dst (b0 (X ⟨w.heap.size,0,Y⟩))) w'):wpList P ops Q (o::rest) a w:=by
 have i:=h.nodup;obtain ⟨r,h1,f,g⟩:=h;refine wpList_range_own w x m t C kt e B.keyed E heldR b _ _ A h1 λw' s c u=>v w' ⟨r,_,_,s,f,g,List.Sublist.refl _,λp d=>?_,λz j=>?_⟩ ⟨c.os,c.tape,c.output,c.size,λk y=>c.block k y (by simp)⟩ u
 · refine ⟨λ_=>d,λ_=>?_⟩;exact er λz=>ak.at_some h1 f i (g p d) ((bl i).2 d) z
 · rw [Maps.has_eq,cx] at j;obtain ⟨q,D,e⟩:=j;obtain ⟨p,d,n⟩:=List.mem_map.1 (f.mem_iff.1 D);exact ⟨p,d,by rw [<- e5 e, <- n]⟩
theorem iy {l:List (K×bc)} (d:(l.map (·.1)).Nodup) {p q:K×bc} (g:p∈l):q∈cn l p.1↔q∈l/\q≠p:=by
 unfold cn;rw [cc];constructor
 · rintro ⟨h,b⟩;simp at b;exact ⟨h,λe=>b (by rw [e])⟩
 · rintro ⟨h,b⟩;refine ⟨h,?_⟩;simp only [b5,decide_eq_false_iff_not];intro e;have c:=(bl d).2 h;have f:=(bl d (k:=p.1) (v:=p.2)).2 g;rw [e,f] at c;injection c with c
   exact b (ej e c.symm)
theorem zI {l:List (K×bc)} {p:K×bc} (b:p∈l):(cn l p.1).length<l.length:=by
 unfold cn;have h1:=b9 (λq:K×bc=> !decide (q.1=p.1)) l;rcases da (l.filter λq=> !decide (q.1=p.1)).length l.length with h|h
 · exact h
 · have:=List.length_filter_eq_length_iff.1 (Nat.le_antisymm h1 h) p b;simp at this
theorem qO (hg:o.guard=Y) (I:fc) (ac:o.op=Op.next I false) (b r:Nat) (l left:List (K×bc)) (a8:a.eval I=b0 (X ⟨r,0,Y⟩)) (h:ct B w b r l left)
 (a4:left=[]->wpList P ops Q rest (a.put o.dst (.tuple #[ax false])) w)
 (a5:∀(p:K×bc) (w':bb),p∈left->B.ok p.1->ct B w' b r l (cn left p.1)->(cn left p.1).length<left.length->aw r w w'->
  (Instr.entry (b0 (X ⟨r,0,Y⟩))).run P w'= .ok (.tuple #[B.kv p.1,p.2]) w'->wpList P ops Q rest (a.put o.dst (.tuple #[ax true,B.kv p.1,p.2])) w'):
 wpList P ops Q (o::rest) a w:=by
 have g:=h.map.nodup;obtain ⟨es,f,a0,h1,M,E,t,N,O⟩:=h;refine wpList_next_ranges w hg I ac kt B.keyed heldR (λv:bc=>v) (λv:bc=>v) (λkey W _=>⟨key,rfl⟩) (λv y _=>⟨v,rfl⟩) b r _ _ f a0 a8 h1 (λh0 hl=>a4 ?_) λx c W y w' a3 G a9 T a6 ad au u al a7=>?_
 · rcases left with _|⟨p,left⟩
   · rfl
   · have:=(N p (t.subset bB)).2 bB;rw [hl] at this;cases this
 · obtain ⟨p,i,e⟩:=O W a9;have H:=t.subset i;have A:=E p H;have ao:x=B.kv p.1:=B.keyed.inj G (by rw [<- e];exact B.key _ A);have hc:p.2=c:=by have F:=a6 (.held undef);rw [<- e,ak.at_some h1.owns M g A ((bl g (k:=p.1) (v:=p.2)).2 H)] at F;simp only [heldR,bw] at T;rw [<- T] at F;injection F
   have R:(left.map (·.1)).Nodup:=g.sublist (t.map _);subst ao;subst hc;refine a5 p w' i A ⟨es,_,a3,ad,M,E,(e8).trans t,λq j=>?_,λz C=>?_⟩ (zI i) ⟨u.os,u.tape,u.output,al,λk hk=>?_⟩ a7
   · rw [iy R i, <- N q j];simp only [bY,b5];constructor
     · rintro ⟨D,s⟩;refine ⟨D,λd=>?_⟩;rw [d,e,e4 (B.keyed.key G)] at s;cases s
     · rintro ⟨D,s⟩;refine ⟨D,Maps.sameKey_ne λd=>s ?_⟩;rw [<- e] at d;have n:=B.lit_inj (E q j) A d;have m:=(bl g (k:=q.1) (v:=q.2)).2 j;have a2:=(bl g (k:=p.1) (v:=p.2)).2 H;rw [n,a2] at m;injection m with m
       exact ej n m.symm
   · simp only [bY,b5] at C;obtain ⟨q,j,d⟩:=O z C.1;refine ⟨q,(iy R i).2 ⟨j,λn=>?_⟩,d⟩;rw [<- d,n,e,e4 (B.keyed.key G)] at C;cases C.2
   · by_cases hk2:k<w.heap.size
     · exact u.block k hk2 (by simpa using hk)
     · rw [bt (by omega),bt (by omega)]
theorem en {w w':bb} {b:Nat} (h:w.mapTurned w' b):aw b w w':=by
 have d:=h.grown;have f:w'.heap.size=w.heap.size:=by obtain ⟨i,c,j,g,_,rfl⟩:=h;simp [Go.ChangeMaps.setBlock]
 refine ⟨d.os,d.tape,d.output,f,λk e=>?_⟩;by_cases h2:k<w.heap.size
 · exact d.block k h2 (by simpa using e)
 · rw [bt (by omega),bt (by omega)]
end
end
section
open Go.RowKit
set_option linter.unusedSectionVars false
structure Tot {K:Type} (lt:K->K->Bool):Prop where
 irr:∀a,lt a a=false
 tr:∀a b c,lt a b=true->lt b c=true->lt a c=true
 tot:∀a b,a≠b->lt a b=true∨lt b a=true
theorem Tot.asym {K:Type} {lt:K->K->Bool} (T:Tot lt) {a b:K} (h:lt a b=true):lt b a=false:=by
 cases h2:lt b a
 · rfl
 · have:=T.tr _ _ _ h h2;rw [T.irr] at this;cases this
section
variable {K V:Type} [DecidableEq K] (lt:K->K->Bool)
def insL:List (K×V)->K->V->List (K×V)
 |[],k,v=>[(k,v)]
 |p::l,k,v=>if lt p.1 k then p::insL l k v else if p.1=k then (k,v)::l else (k,v)::p::l
def findK (l:List (K×V)) (k:K):Option V:=(l.find? λp=>decide (p.1=k)).map (·.2)
def aq (l:List (K×V)):Prop:=l.Pairwise λp q=>lt p.1 q.1=true
def placeK (l:List (K×V)) (k:K):Nat:=(l.takeWhile λp=>lt p.1 k).length
variable {lt}
theorem gR (l:List (K×V)) (k:K):placeK lt l k<=l.length:=by
 unfold placeK;have:=(List.takeWhile_sublist (p:=λp:K×V=>lt p.1 k) (l:=l)).length_le;exact this
theorem lW (l:List (K×V)) (k:K) (i:Nat) (h:i<placeK lt l k) (b:i<l.length):lt l[i].1 k=true:=by
 unfold placeK at h;induction l generalizing i with
 |nil=>simp at b
 |cons p l ih=>
  rw [bT] at h;split at h
  · rename_i c;cases i with
    |zero=>exact c
    |succ i=>exact ih i (by simpa using h) (by simpa using b)
  · simp at h
theorem lX (l:List (K×V)) (k:K) (h:placeK lt l k<l.length):lt l[placeK lt l k].1 k=false:=by
 induction l with
 |nil=>simp at h
 |cons p l ih=>
  unfold placeK at h ⊢;by_cases hp:lt p.1 k=true
  · have e:(List.takeWhile (λp:K×V=>lt p.1 k) (p::l)).length=placeK lt l k+1:=by rw [bT,if_pos hp];rfl
    simp only [e,eQ];exact ih (by rw [e] at h;simpa using h)
  · have e:(List.takeWhile (λp:K×V=>lt p.1 k) (p::l)).length=0:=by rw [bT,if_neg hp];rfl
    simp only [e,ex];simpa using hp
theorem si (l:List (K×V)) (k:K) (v:V):insL lt l k v=l.take (placeK lt l k)++(k,v)::(if (l[placeK lt l k]?).map (·.1)=X k then l.drop (placeK lt l k+1) else l.drop (placeK lt l k)):=by
 induction l with
 |nil=>rfl
 |cons p l ih=>
  unfold insL;by_cases hp:lt p.1 k=true
  · have e:placeK lt (p::l) k=placeK lt l k+1:=by unfold placeK;rw [bT,if_pos hp];rfl
    rw [if_pos hp,e,ih];rfl
  · have e:placeK lt (p::l) k=0:=by unfold placeK;rw [bT,if_neg hp];rfl
    rw [if_neg hp,e];by_cases hk:p.1=k
    · rw [if_pos hk,if_pos (by simp [hk])];rfl
    · rw [if_neg hk,if_neg (by simpa using hk)];rfl
theorem eY (T:Tot lt) {l:List (K×V)} (g:aq lt l) (k:K):findK l k=(l[placeK lt l k]?).bind λp=>if p.1=k then X p.2 else Y:=by
 induction l with
 |nil=>rfl
 |cons p l ih=>
  obtain ⟨h1,c⟩:=List.pairwise_cons.1 g;unfold findK;rw [cP];by_cases hp:lt p.1 k=true
  · have e:placeK lt (p::l) k=placeK lt l k+1:=by unfold placeK;rw [bT,if_pos hp];rfl
    have d:p.1≠k:=by intro e;rw [e,T.irr] at hp;cases hp
    rw [e];simp only [d,decide_false,List.getElem?_cons_succ];exact ih c
  · have e:placeK lt (p::l) k=0:=by unfold placeK;rw [bT,if_neg hp];rfl
    rw [e];by_cases hk:p.1=k
    · simp [hk]
    · simp only [hk,decide_false,List.getElem?_cons_zero,Option.bind_some,if_false];have:l.find? (λp=>decide (p.1=k))=Y:=by rw [cl];intro q f b;simp at b;have:=h1 q f;rw [b] at this;exact hp this
      rw [this];rfl
theorem eh (T:Tot lt) {l:List (K×V)} (i:aq lt l) (k:K) (v:V) (q:K×V):q∈insL lt l k v↔q=(k,v)∨q∈l/\q.1≠k:=by
 induction l with
 |nil=>simp [insL]
 |cons p l ih=>
  obtain ⟨h1,d⟩:=List.pairwise_cons.1 i;have ih:=ih d;unfold insL;by_cases hp:lt p.1 k=true
  · have f:p.1≠k:=by intro e;rw [e,T.irr] at hp;cases hp
    rw [if_pos hp,bA,ih,bA];constructor
    · rintro (rfl|rfl|⟨h,b⟩)
      · exact .inr ⟨.inl rfl,f⟩
      · exact .inl rfl
      · exact .inr ⟨.inr h,b⟩
    · rintro (rfl|⟨rfl|h,b⟩)
      · exact .inr (.inl rfl)
      · exact .inl rfl
      · exact .inr (.inr ⟨h,b⟩)
  · have c:∀q∈l,q.1≠k:=λq g e=>hp (by have:=h1 q g;rw [e] at this;exact this);rw [if_neg hp];by_cases hk:p.1=k
    · rw [if_pos hk,bA,bA];constructor
      · rintro (h|h)
        · exact .inl h
        · exact .inr ⟨.inr h,c q h⟩
      · rintro (h|⟨rfl|h,b⟩)
        · exact .inl h
        · exact absurd hk b
        · exact .inr h
    · rw [if_neg hk,bA,bA];constructor
      · rintro (h|rfl|h)
        · exact .inl h
        · exact .inr ⟨.inl rfl,hk⟩
        · exact .inr ⟨.inr h,c q h⟩
      · rintro (h|⟨h,b⟩)
        · exact .inl h
        · exact .inr h
theorem bW (T:Tot lt) {l:List (K×V)} (e:aq lt l) (k:K) (v:V):aq lt (insL lt l k v):=by
 induction l with
 |nil=>exact List.pairwise_singleton _ _
 |cons p l ih=>
  obtain ⟨h1,c⟩:=List.pairwise_cons.1 e;unfold insL;by_cases hp:lt p.1 k=true
  · rw [if_pos hp];refine List.pairwise_cons.2 ⟨λq b=>?_,ih c⟩;rcases (eh T c k v q).1 b with rfl|⟨h,_⟩
    · exact hp
    · exact h1 q h
  · rw [if_neg hp];by_cases hk:p.1=k
    · rw [if_pos hk];exact List.pairwise_cons.2 ⟨λq b=>by have:=h1 q b;rw [hk] at this;exact this,c⟩
    · rw [if_neg hk];have d:lt k p.1=true:=by rcases T.tot _ _ hk with h|h;exact absurd h hp;exact h
      exact List.pairwise_cons.2 ⟨λq b=>by
       rcases List.mem_cons.1 b with rfl|b
       · exact d
       · exact T.tr _ _ _ d (h1 q b),e⟩
theorem ph (T:Tot lt) {l:List (K×V)} (c:aq lt l):(l.map (·.1)).Nodup:=by
 rw [List.Nodup,b3];exact c.imp λ{a b} h e=>by rw [e,T.irr] at h;cases h
theorem tJ (T:Tot lt) {l c:List (K×V)} (f:aq lt l) (g:aq lt c) (h:∀q,q∈l↔q∈c):l=c:=by
 have j:l.Nodup:=f.imp λ{a b} h e=>by rw [e,T.irr] at h;cases h
 have k:c.Nodup:=g.imp λ{a b} h e=>by rw [e,T.irr] at h;cases h
 have i:l.Perm c:=(cg j k).2 h;exact i.eq_of_pairwise (λa b _ _ h1 d=>by rw [T.asym h1] at d;cases d) f g
theorem zi (T:Tot lt) {l:List (K×V)} (d:aq lt l) (k:K) (v:V):(l.filter (λp=> !decide (p.1=k))++[(k,v)]).Perm (insL lt l k v):=by
 have i:(insL lt l k v).Nodup:=(bW T d k v).imp λ{a b} h e=>by rw [e,T.irr] at h;cases h
 have g:l.Nodup:=d.imp λ{a b} h e=>by rw [e,T.irr] at h;cases h
 refine (cg ?_ i).2 λq=>?_
 · rw [List.nodup_append];refine ⟨g.sublist e8,by simp,λa c b f e=>?_⟩;rw [fl] at f;rw [cc] at c;rw [e,f] at c;simp at c
 · rw [eh T d,List.mem_append,cc,fl];simp only [b5,decide_eq_false_iff_not];constructor
   · rintro (h|h)
     · exact .inr h
     · exact .inl h
   · rintro (h|h)
     · exact .inr h
     · exact .inl h
theorem cR (T:Tot lt) {l:List (K×V)} (c:aq lt l) {k:K} {v:V}:findK l k=X v↔(k,v)∈l:=by
 have b:=ph T c;clear c;induction l with
 |nil=>simp [findK]
 |cons p l ih=>
  rw [b4,List.nodup_cons] at b;have ih:=ih b.2;unfold findK at ih ⊢;rw [cP];by_cases e:p.1=k
  · simp only [e,decide_true,Option.map_some,bw,bA];constructor
    · rintro rfl;exact .inl (by rw [<- e])
    · rintro (h|h)
      · rw [<- h]
      · exact absurd (List.mem_map.2 ⟨_,h,e.symm⟩) b.1
  · simp only [e,decide_false,bA];refine ih.trans ⟨.inr,?_⟩;rintro (h|h)
    · exact absurd (by rw [<- h]) e
    · exact h
theorem xr {l:List (K×V)} {k:K}:findK l k=Y↔∀v,(k,v)∉l:=by
 unfold findK;rw [Option.map_eq_none_iff,cl];constructor
 · intro h v b;exact h _ b (by simp)
 · intro h p c e;simp at e;exact h p.2 (by rw [<- e];exact c)
theorem jG (T:Tot lt) {l:List (K×V)} (b:aq lt l) (k:K) (v:V) (j:K):findK (insL lt l k v) j=if j=k then X v else findK l j:=by
 by_cases e:j=k
 · rw [if_pos e,cR T (bW T b k v),eh T b];exact .inl (by rw [e])
 · rw [if_neg e];cases h:findK l j with
   |none=>
    rw [xr] at h ⊢;intro x d;rcases (eh T b k v _).1 d with c|⟨c,_⟩
    · injection c with c;exact e c
    · exact h x c
   |some x=>rw [cR T b] at h;rw [cR T (bW T b k v),eh T b];exact .inr ⟨h,e⟩
end
abbrev RK:=Int×Int
abbrev PK:=RK×RK
def ltRK (a b:RK):Bool:=decide (a.1<b.1)||(decide (a.1=b.1)&&decide (a.2<b.2))
def ltPK (x y:PK):Bool:=if x.1=y.1 then ltRK x.2 y.2 else ltRK x.1 y.1
theorem fF {a b:RK}:ltRK a b=true↔a.1<b.1∨a.1=b.1/\a.2<b.2:=by unfold ltRK;simp
theorem aN:Tot ltRK:=by
 refine ⟨λa=>?_,λa b c h1 f=>?_,λa b h=>?_⟩
 · cases h:ltRK a a
   · rfl
   · rw [fF] at h;omega
 · rw [fF] at *;omega
 · rw [fF,fF];have:a.1≠b.1∨a.2≠b.2:=by
    rcases Classical.em (a.1=b.1) with e|e
    · exact .inr λd=>h (ej e d)
    · exact .inl e
   omega
theorem cY:Tot ltPK:=by
 refine ⟨λa=>?_,λa b c h1 f=>?_,λa b h=>?_⟩
 · unfold ltPK;rw [if_pos rfl];exact aN.irr _
 · unfold ltPK at *;by_cases e1:a.1=b.1
   · rw [if_pos e1] at h1;by_cases d:b.1=c.1
     · rw [if_pos d] at f;rw [if_pos (e1.trans d)];exact aN.tr _ _ _ h1 f
     · rw [if_neg d] at f;rw [if_neg (e1 ▸ d),e1];exact f
   · rw [if_neg e1] at h1;by_cases d:b.1=c.1
     · rw [if_neg (d ▸ e1), <- d];exact h1
     · rw [if_neg d] at f;have g:=aN.tr _ _ _ h1 f;rw [if_neg (by intro e;rw [e,aN.irr] at g;cases g)];exact g
 · unfold ltPK;by_cases e:a.1=b.1
   · rw [if_pos e,if_pos e.symm];exact aN.tot _ _ λd=>h (ej e d)
   · rw [if_neg e,if_neg (Ne.symm e)];exact aN.tot _ _ e
structure ar where
 vs:List (RK×(Int×az))
 ds:List (RK×Int)
 ps:List (PK×(Int×Bool))
def cat0:ar:=⟨[],[],[]⟩
structure ar.Ok (d:ar):Prop where
 vs:aq ltRK d.vs
 ds:aq ltRK d.ds
 ps:aq ltPK d.ps
 apart:∀p∈d.ps,ltRK p.1.1 p.1.2=true
def aJ (b c:Bool) (f e:Int) (d:Nat):Int:=
 if b&&c then 22 else if b&&decide (e<=f) then 30 else if !b&&decide (5000<=d) then 2 else 0
def putC (d:ar) (k:RK) (n:Int) (r:az):ar×Int:=
 if wrongR r≠0 then (d,11) else
 let e:=match findK d.vs k with
  |some (n',r')=>aJ true (decide (n'=n)&&decide (r'=r)) n' n d.vs.length
  |none=>aJ false false 0 n d.vs.length
 if e=0 then ({d with vs:=insL ltRK d.vs k (n,r)},0) else (d,e)
def dropC (d:ar) (k:RK) (n:Int):ar×Int:=
 let e:=match findK d.ds k with
  |some n'=>aJ true (decide (n'=n)) n' n d.ds.length
  |none=>aJ false false 0 n d.ds.length
 if e=0 then ({d with ds:=insL ltRK d.ds k n},0) else (d,e)
def pairK (a b:RK):PK:=if ltRK b a then (b,a) else (a,b)
def decideC (d:ar) (a b:RK) (n:Int) (j:Bool):ar×Int:=
 if a=b then (d,1) else
 let e:=match findK d.ps (pairK a b) with
  |some (n',j')=>aJ true (decide (n'=n)&&decide (j'=j)) n' n d.ps.length
  |none=>aJ false false 0 n d.ps.length
 if e=0 then ({d with ps:=insL ltPK d.ps (pairK a b) (n,j)},0) else (d,e)
def thereC (d:ar):List (RK×(Int×az)):=d.vs.filter λp=>match findK d.ds p.1 with
 |some n=>decide (n<=p.2.1)
 |none=>true
def atC (l:List (RK×(Int×az))) (k:RK):Option Nat:=l.findIdx? λp=>decide (p.1=k)
def keyC (l:List (RK×(Int×az))) (i:Nat):RK:=(l.getD i ((0,0),(0,⟨0,0,[]⟩))).1
def kw (ps:List (PK×(Int×Bool))) (l:List (RK×(Int×az))) (set:List Nat) (x y:Nat):Bool:=
 ps.any λp=> !p.2.2&&match atC l p.1.1,atC l p.1.2 with
  |some a,X b=>(decide (set.getD a 0=x)&&decide (set.getD b 0=y))||(decide (set.getD a 0=y)&&decide (set.getD b 0=x))
  |_,_=>false
def gJ (ps:List (PK×(Int×Bool))) (l:List (RK×(Int×az))) (set:List Nat) (a b:Nat):List Nat:=
 let x:=set.getD a 0
 let y:=set.getD b 0
 if x=y then set else if kw ps l set x y then set else set.map λz=>if z=x∨z=y then min x y else z
def joinedC (ps:List (PK×(Int×Bool))) (l:List (RK×(Int×az))):List (Nat×Nat):=ps.filterMap λp=>
 if p.2.2 then match atC l p.1.1,atC l p.1.2 with
  |some a,X b=>X (a,b)
  |_,_=>Y
 else Y
def setsC (d:ar):List Nat:=
 (joinedC d.ps (thereC d)++pairsR ((thereC d).map λp=>p.2.2)).foldl (λset q=>gJ d.ps (thereC d) set q.1 q.2) (b2 (thereC d).length)
def sameC (d:ar):List (RK×RK):=(b2 (thereC d).length).map λi=>(keyC (thereC d) i,keyC (thereC d) ((setsC d).getD i 0))
def dg (d:ar):List RK:=((sameC d).filter λp=>decide (p.1=p.2)).map (·.1)
def membersC (d:ar) (t:RK):List RK:=((sameC d).filter λp=>decide (p.2=t)).map (·.1)
end
section
open Go.RowKit
def rec0:az:=⟨0,0,[]⟩
theorem nX (l:List az) (i k:Nat):(i,k)∈pairsR l↔i<k/\k<l.length/\uj (l.getD i rec0) (l.getD k rec0)=true:=by
 unfold pairsR ga;simp only [List.mem_flatMap,List.mem_range,List.mem_map,cc,bY,decide_eq_true_eq,cp,rec0];constructor
 · rintro ⟨a,f,b,⟨e,h1,c⟩,rfl,rfl⟩;exact ⟨h1,e,c⟩
 · rintro ⟨h1,c,d⟩;exact ⟨i,by omega,k,⟨c,h1,d⟩,rfl,rfl⟩
def ltNN (a b:Nat×Nat):Bool:=decide (a.1<b.1)||(decide (a.1=b.1)&&decide (a.2<b.2))
theorem jB {a b:Nat×Nat}:ltNN a b=true↔a.1<b.1∨a.1=b.1/\a.2<b.2:=by unfold ltNN;simp
theorem pI (l:List az):(pairsR l).Pairwise λa b=>ltNN a b=true:=by
 unfold pairsR;rw [List.flatMap,List.pairwise_flatten];constructor
 · intro x e;obtain ⟨i,_,rfl⟩:=List.mem_map.1 e;unfold ga;rw [b3];refine (List.Pairwise.filter _ List.pairwise_lt_range).imp ?_;intro a b h;rw [jB];exact .inr ⟨rfl,h⟩
 · rw [b3];refine List.pairwise_lt_range.imp ?_;intro a b h x e y f;unfold ga at e f;obtain ⟨c,_,rfl⟩:=List.mem_map.1 e;obtain ⟨d,_,rfl⟩:=List.mem_map.1 f;rw [jB];exact .inl h
theorem wN (l:List az):(pairsR l).length<=l.length * l.length:=by
 unfold pairsR;rw [List.length_flatMap];have h:∀(m:List Nat),(m.map λi=>(ga l l.length i).length).sum<=m.length * l.length:=by
  intro m;induction m with
  |nil=>simp
  |cons a m ih=>
   have:(ga l l.length a).length<=l.length:=by unfold ga;rw [cz];exact cQ (b9 _ _) (by simp)
   simp only [b4,List.sum_cons,cb,Nat.add_mul];omega
 simpa using h (b2 l.length)
def cameR (l:List az) (n:Nat) (b:List Bs) (p:Nat×Nat):Bool:=
 decide (p.1<p.2)&&((decide (p.2<n)&&(rawR (l.getD p.1 rec0).fields).any (rawR (l.getD p.2 rec0).fields).contains)||(decide (p.2=n)&&b.any (rawR (l.getD p.1 rec0).fields).contains))
theorem uP (l:List az) (o:List (Nat×Nat)) (h:∀p,p∈o↔cameR l l.length [] p=true/\40<=pointsR (l.getD p.1 rec0) (l.getD p.2 rec0)) (p:Nat×Nat):p∈o↔p∈pairsR l:=by
 rw [h,show p=(p.1,p.2) from rfl,nX];unfold cameR uj;simp;constructor
 · rintro ⟨⟨h1,b,c⟩,d⟩;exact ⟨h1,b,c,d⟩
 · rintro ⟨h1,b,c,d⟩;exact ⟨⟨h1,b,c⟩,d⟩
end
section
open Go.RowKit
abbrev VL:=List (RK×(Int×az))
theorem cF {L:VL} {i:Nat} (h:i<L.length):keyC L i=L[i].1:=by
 unfold keyC;rw [ch,eg h];rfl
section
variable {L:VL}
theorem j5 (d:aq ltRK L) {i j:Nat} (c:i<j) (b:j<L.length):ltRK (keyC L i) (keyC L j)=true:=by
 rw [cF (show i<L.length by omega),cF b];exact List.pairwise_iff_getElem.1 d i j (by omega) b c
theorem uv (c:aq ltRK L) {i j:Nat} (d:i<L.length) (e:j<L.length):ltRK (keyC L i) (keyC L j)=true↔i<j:=by
 constructor
 · intro h;rcases Nat.lt_trichotomy i j with b|b|b
   · exact b
   · subst b;rw [aN.irr] at h;cases h
   · rw [aN.asym (j5 c b d)] at h;cases h
 · exact λh=>j5 c h e
theorem cN (c:aq ltRK L) {i j:Nat} (d:i<L.length) (e:j<L.length) (h:keyC L i=keyC L j):i=j:=by
 rcases Nat.lt_trichotomy i j with b|b|b
 · have:=j5 c b e;rw [h,aN.irr] at this;cases this
 · exact b
 · have:=j5 c b d;rw [h,aN.irr] at this;cases this
theorem at_some {k:RK} {i:Nat} (h:atC L k=X i):i<L.length/\keyC L i=k:=by
 unfold atC at h;rw [List.findIdx?_eq_some_iff_getElem] at h;obtain ⟨h1,b,_⟩:=h;exact ⟨h1,by rw [cF h1];simpa using b⟩
theorem at_none {k:RK} (h:atC L k=Y) (i:Nat) (b:i<L.length):keyC L i≠k:=by
 unfold atC at h;rw [List.findIdx?_eq_none_iff] at h;have:=h L[i] (dc b);rw [cF b];simpa using this
theorem fu (c:aq ltRK L) {i:Nat} (b:i<L.length):atC L (keyC L i)=X i:=by
 cases h:atC L (keyC L i) with
 |none=>exact absurd rfl (at_none h i b)
 |some j=>rw [cN c (at_some h).1 b (at_some h).2]
end
structure dS (n:Nat) (set:List Nat):Prop where
 len:set.length=n
 le:∀i,i<n->set.getD i 0<=i
 rep:∀i,i<n->set.getD (set.getD i 0) 0=set.getD i 0
theorem dS.range (n:Nat):dS n (b2 n):=by
 have h:∀i,i<n->(b2 n).getD i 0=i:=λi b=>by simp [ch,b]
 exact ⟨by simp,λi b=>by rw [h i b];exact c5 _,λi b=>by rw [h i b,h i b]⟩
theorem dS.lt {n:Nat} {set:List Nat} (h:dS n set) {i:Nat} (b:i<n):set.getD i 0<n:=Nat.lt_of_le_of_lt (h.le i b) b
def mergeS (set:List Nat) (x y:Nat):List Nat:=set.map λz=>if z=x∨z=y then min x y else z
theorem cE {set:List Nat} {x y i:Nat} (b:i<set.length):(mergeS set x y).getD i 0=if set.getD i 0=x∨set.getD i 0=y then min x y else set.getD i 0:=by
 unfold mergeS;simp [ch,eg b]
theorem ui (set:List Nat) (x y:Nat):mergeS set x y=mergeS set y x:=by
 unfold mergeS;refine List.map_congr_left λz _=>?_;by_cases h:z=x∨z=y
 · rw [if_pos h,if_pos h.symm,Nat.min_comm]
 · rw [if_neg h,if_neg (λb=>h b.symm)]
theorem dS.merge {n:Nat} {set:List Nat} (h:dS n set) {x y:Nat} (k:x<n) (l:y<n) (g:set.getD x 0=x) (j:set.getD y 0=y):dS n (mergeS set x y):=by
 refine ⟨by unfold mergeS;rw [cz,h.len],λi c=>?_,λi c=>?_⟩
 · rw [cE (by rw [h.len];exact c)];have:=h.le i c;split
   · rename_i b;rcases b with b|b<;>omega
   · exact this
 · have e:=cE (set:=set) (x:=x) (y:=y) (i:=i) (by rw [h.len];exact c);rw [e];by_cases b:set.getD i 0=x∨set.getD i 0=y
   · rw [if_pos b];have f:min x y<n:=by omega
     rw [cE (by rw [h.len];exact f)];rcases Nat.le_total x y with d|d
     · rw [Nat.min_eq_left d,g,if_pos (.inl rfl)]
     · rw [Nat.min_eq_right d,j,if_pos (.inr rfl)]
   · rw [if_neg b,cE (by rw [h.len];exact h.lt c),h.rep i c,if_neg b]
theorem qU (ps:List (PK×(Int×Bool))) (l:VL) (set:List Nat) (a b:Nat):gJ ps l set a b=if set.getD a 0=set.getD b 0 then set else if kw ps l set (set.getD a 0) (set.getD b 0) then set else mergeS set (set.getD a 0) (set.getD b 0):=rfl
theorem dS.unite {n:Nat} {set:List Nat} (h:dS n set) (ps:List (PK×(Int×Bool))) (l:VL) {a b:Nat} (c:a<n) (d:b<n):dS n (gJ ps l set a b):=by
 rw [qU];split
 · exact h
 · split
   · exact h
   · exact h.merge (h.lt c) (h.lt d) (h.rep a c) (h.rep b d)
def aW (L:VL) (set:List Nat) (t:Nat):List RK:=((b2 L.length).filter λi=>decide (set.getD i 0=t)).map (keyC L)
theorem aZ {L:VL} {set:List Nat} {t:Nat} {k:RK}:k∈aW L set t↔∃i,i<L.length/\set.getD i 0=t/\keyC L i=k:=by
 unfold aW;simp only [List.mem_map,cc,List.mem_range,decide_eq_true_eq,and_assoc]
theorem jI {L:VL} (g:aq ltRK L) (set:List Nat) (t:Nat):(aW L set t).Pairwise λa b=>ltRK a b=true:=by
 unfold aW;rw [b3];have h1:((b2 L.length).filter λi=>decide (set.getD i 0=t)).Pairwise (λi j=>i<j/\j<L.length):=by
  have d:(b2 L.length).Pairwise (λi j=>i<j/\j<L.length):=by rw [List.pairwise_iff_getElem];intro i j e c f;simp at e c;simp;exact ⟨f,c⟩
  exact d.filter _
 exact h1.imp λ{i j} h=>j5 g h.1 h.2
theorem ie {L:VL} (c:aq ltRK L) (set:List Nat) (t:Nat):(aW L set t).Nodup:=(jI c set t).imp λ{a b} h e=>by rw [e,aN.irr] at h;cases h
theorem ki (L:VL) (set:List Nat) (t:Nat):(aW L set t).length<=L.length:=by
 unfold aW;rw [cz];exact cQ (b9 _ _) (by simp)
theorem mG {L:VL} {set:List Nat} {t:Nat} (b:t<L.length) (c:set.getD t 0=t):aW L set t≠[]:=λe=>by
 have:=(aZ (L:=L) (set:=set)).2 ⟨t,b,c,rfl⟩;rw [e] at this;cases this
theorem sP {L:VL} {set:List Nat} (c:set.length=L.length) {x y t:Nat} (e:t≠x) (f:t≠y):aW L (mergeS set x y) t=aW L set t:=by
 unfold aW;congr 1
 refine c9 λi b=>?_;rw [cE (by rw [c];simpa using b)];have d:min x y≠t:=by omega
 split
 · rename_i h;rw [decide_eq_false d];symm;rw [decide_eq_false_iff_not];omega
 · rfl
theorem xL {L:VL} (g:aq ltRK L) {set:List Nat} (u:set.length=L.length) {x y:Nat} (t:x≠y) {l ys:List RK} (h1:l.Perm (aW L set x)) (m:ys.Perm (aW L set y)):
 (l++ys).Perm (aW L (mergeS set x y) (min x y)):=by
 refine (h1.append m).trans ?_;refine (cg ?_ (ie g _ _)).2 λk=>?_
 · rw [List.nodup_append];refine ⟨ie g _ _,ie g _ _,λa q b r e=>?_⟩;obtain ⟨i,f,c,d⟩:=aZ.1 q;obtain ⟨j,s,n,p⟩:=aZ.1 r;have:=cN g f s (by rw [d,p,e]);subst this;exact t (c.symm.trans n)
 · rw [List.mem_append,aZ,aZ,aZ];constructor
   · rintro (⟨i,f,c,d⟩|⟨i,f,c,d⟩)
     · exact ⟨i,f,by rw [cE (by omega),if_pos (.inl c)],d⟩
     · exact ⟨i,f,by rw [cE (by omega),if_pos (.inr c)],d⟩
   · rintro ⟨i,f,c,d⟩;rw [cE (by omega)] at c;by_cases h:set.getD i 0=x∨set.getD i 0=y
     · exact h.imp (λh=>⟨i,f,h,d⟩) (λh=>⟨i,f,h,d⟩)
     · rw [if_neg h] at c;exact absurd (show set.getD i 0=x∨set.getD i 0=y by omega) h
theorem ud (a b:RK) (h:a≠b):pairK a b=pairK b a:=by
 unfold pairK;rcases aN.tot a b h with h1|h1
 · rw [if_neg (by rw [aN.asym h1];decide),if_pos h1]
 · rw [if_pos h1,if_neg (by rw [aN.asym h1];decide)]
theorem yN {p:PK} (h:ltRK p.1 p.2=true):pairK p.1 p.2=p/\pairK p.2 p.1=p:=by
 have h1:pairK p.1 p.2=p:=by unfold pairK;rw [if_neg (by rw [aN.asym h];decide)]
 refine ⟨h1,?_⟩;rw [ud _ _ (λe=>by rw [e,aN.irr] at h;cases h)];exact h1
def jm (ps:List (PK×(Int×Bool))) (b ys:List RK):Bool:=b.any λr=>ys.any λs=>match findK ps (pairK r s) with
 |some (_,false)=>true
 |_=>false
theorem jl {ps:List (PK×(Int×Bool))} {d ys:List RK}:jm ps d ys=true↔∃r∈d,∃s∈ys,∃n,findK ps (pairK r s)=X (n,false):=by
 unfold jm;simp only [cx];constructor
 · rintro ⟨r,b,s,c,h⟩;refine ⟨r,b,s,c,?_⟩;split at h
   · exact ⟨_,by assumption⟩
   · cases h
 · rintro ⟨r,b,s,c,n,h⟩;exact ⟨r,b,s,c,by rw [h]⟩
theorem Ae {ps:List (PK×(Int×Bool))} (u:aq ltPK ps) (D:∀p∈ps,ltRK p.1.1 p.1.2=true) {L:VL} (l:aq ltRK L) {set:List Nat} {x y:Nat} {A ys:List RK} (h1:A.Perm (aW L set x)) (m:ys.Perm (aW L set y)):
 kw ps L set x y=jm ps A ys:=by
 rw [dx,jl];unfold kw;rw [cx];constructor
 · rintro ⟨p,v,h⟩;rw [bY] at h;obtain ⟨f,h⟩:=h;have f:p.2.2=false:=by simpa using f
   obtain ⟨G,H⟩:=yN (D p v);have k:findK ps p.1=X (p.2.1,false):=by rw [cR cY u, <- f];exact v
   split at h
   · rename_i a b d e;have d:=at_some d;have e:=at_some e;simp only [cd,bY,decide_eq_true_eq] at h;rcases h with ⟨c,g⟩|⟨c,g⟩
     · exact ⟨p.1.1,h1.mem_iff.2 (aZ.2 ⟨a,d.1,c,d.2⟩),p.1.2,m.mem_iff.2 (aZ.2 ⟨b,e.1,g,e.2⟩),p.2.1,by rw [G];exact k⟩
     · exact ⟨p.1.2,h1.mem_iff.2 (aZ.2 ⟨b,e.1,g,e.2⟩),p.1.1,m.mem_iff.2 (aZ.2 ⟨a,d.1,c,d.2⟩),p.2.1,by rw [H];exact k⟩
   · cases h
 · rintro ⟨r,E,s,F,n,k⟩;obtain ⟨i,t,c,g⟩:=aZ.1 (h1.mem_iff.1 E);obtain ⟨j,f,q,C⟩:=aZ.1 (m.mem_iff.1 F);rw [cR cY u] at k;refine ⟨_,k,?_⟩;subst g;subst C;unfold pairK;split
   · dsimp only;rw [fu l t,fu l f];simp only [c,q];simp
   · dsimp only;rw [fu l t,fu l f];simp only [c,q];simp
theorem pp (d:ar):sameC d=(b2 (thereC d).length).map λi=>(keyC (thereC d) i,keyC (thereC d) ((setsC d).getD i 0)):=rfl
theorem sq {n:Nat} (ps:List (PK×(Int×Bool))) (l:VL):∀(b:List (Nat×Nat)) (set:List Nat),dS n set->(∀q∈b,q.1<n/\q.2<n)->dS n (b.foldl (λset q=>gJ ps l set q.1 q.2) set)
 |[],_,h,_=>h
 |q::b,_,h,hq=>sq ps l b _ (h.unite ps l (hq q bB).1 (hq q bB).2) λp c=>hq p (b6 _ c)
theorem xf {ps:List (PK×(Int×Bool))} {l:VL}:∀q∈joinedC ps l,q.1<l.length/\q.2<l.length:=by
 intro q c;unfold joinedC at c;obtain ⟨p,_,h⟩:=List.mem_filterMap.1 c;split at h
 · split at h
   · rename_i a b d e;injection h with h
     subst h;exact ⟨(at_some d).1,(at_some e).1⟩
   · cases h
 · cases h
theorem rI {l:List az}:∀q∈pairsR l,q.1<l.length/\q.2<l.length:=by
 intro q b;have:=(nX l q.1 q.2).1 b;exact ⟨by omega,this.2.1⟩
theorem kZ (d:ar):dS (thereC d).length (setsC d):=by
 unfold setsC;refine sq _ _ _ _ (dS.range _) λq b=>?_;rcases List.mem_append.1 b with h|h
 · exact xf q h
 · have:=rI q h;simpa using this
theorem dh {d:ar} (h:d.Ok):aq ltRK (thereC d):=h.vs.filter _
theorem nG {d:ar} (h:d.Ok):dg d=((b2 (thereC d).length).filter λi=>decide ((setsC d).getD i 0=i)).map (keyC (thereC d)):=by
 unfold dg;rw [pp,List.filter_map,List.map_map];congr 1
 refine c9 λi b=>?_;have b:i<(thereC d).length:=by simpa using b
 simp only [Function.comp];rw [dx,decide_eq_true_eq,decide_eq_true_eq];exact ⟨λe=>(cN (dh h) b ((kZ d).lt b) e).symm,λe=>by rw [e]⟩
theorem rQ {d:ar} (h:d.Ok) {t:Nat} (c:t<(thereC d).length):membersC d (keyC (thereC d) t)=aW (thereC d) (setsC d) t:=by
 unfold membersC aW;rw [pp,List.filter_map,List.map_map];congr 1
 refine c9 λi b=>?_;have b:i<(thereC d).length:=by simpa using b
 simp only [Function.comp];rw [dx,decide_eq_true_eq,decide_eq_true_eq];exact ⟨λe=>cN (dh h) ((kZ d).lt b) c e,λe=>by rw [e]⟩
theorem pP {d:ar} {k:RK} (c:∀t,t<(thereC d).length->(setsC d).getD t 0=t->keyC (thereC d) t≠k):membersC d k=[]:=by
 unfold membersC;rw [List.map_eq_nil_iff,List.filter_eq_nil_iff,pp];intro p e;obtain ⟨i,b,rfl⟩:=List.mem_map.1 e;have b:i<(thereC d).length:=by simpa using b
 simpa using c _ ((kZ d).lt b) ((kZ d).rep i b)
end
section
open Go.RowKit Go.Maps
section
variable {K:Type} [DecidableEq K]
theorem dm (p:K×bc) (l:List (K×bc)) (k:K):lookL (p::l) k=if p.1=k then X p.2 else lookL l k:=by
 unfold lookL;rw [cP];by_cases h:p.1=k
 · rw [if_pos h];simp [h]
 · rw [if_neg h];simp [h]
theorem l9 (l:List (K×bc)) (k j:K):lookL (cn l k) j=if j=k then Y else lookL l j:=by
 induction l with
 |nil=>unfold cn lookL;simp
 |cons p l ih=>
  unfold cn at ih ⊢;rw [dd];by_cases h:p.1=k
  · rw [if_neg (by simp [h]),ih,dm];by_cases h2:j=k
    · rw [if_pos h2,if_pos h2]
    · rw [if_neg h2,if_neg h2,if_neg (λe=>h2 (e.symm.trans h))]
  · rw [if_pos (by simp [h]),dm,dm,ih];by_cases h2:j=k
    · rw [if_pos h2,if_pos h2,if_neg (λe=>h (e.trans h2))]
    · rw [if_neg h2,if_neg h2]
theorem yY (l m:List (K×bc)) (k:K):lookL (l++m) k=(lookL l k).or (lookL m k):=by
 induction l with
 |nil=>simp [lookL]
 |cons p l ih=> rw [di,dm,dm,ih];split<;>simp
theorem dv (l:List (K×bc)) (k:K) (v:bc) (j:K):lookL (putL l k v) j=if j=k then X v else lookL l j:=by
 unfold putL;rw [yY,l9,dm];by_cases h:j=k
 · rw [if_pos h,if_pos h,if_pos h.symm];rfl
 · rw [if_neg h,if_neg h,if_neg (λe=>h e.symm)];simp [lookL]
theorem rT {l:List (K×bc)} {k:K}:(lookL l k).isSome=true↔k∈l.map (·.1):=by
 induction l with
 |nil=>simp [lookL]
 |cons p l ih=>
  rw [dm,b4,bA];by_cases h:p.1=k
  · simp [h]
  · rw [if_neg h,ih];exact ⟨.inr,λb=>b.resolve_left (λe=>h e.symm)⟩
theorem Bx (l:List (K×bc)) (k:K):(cn l k).length<=l.length:=b9 _ _
theorem AI (l:List (K×bc)) (k:K) (v:bc):(putL l k v).length<=l.length+1:=by
 unfold putL;rw [bD];have:=Bx l k;simp;omega
end
end
section
open Go.RowKit
theorem aa {w:bb} {b:Nat} {cs:Array bc} {t:b8} (h:w.heap[b]? =X (av cs t (0,0))) (i:Nat):w.cell? ⟨b,i,Y⟩=cs[i]? :=by simp [World.cell?,h]
theorem ab {w:bb} {b:Nat} {cs:Array bc} {t:b8} (h:w.heap[b]? =X (av cs t (0,0))) (i:Nat):w.frozen? ⟨b,i,Y⟩=false:=by simp [World.frozen?,h]
theorem ae {w:bb} {b:Nat} {o:Obj} (h:w.heap[b]? =X o):b<w.heap.size:=(Array.getElem?_eq_some_iff.1 h).1
theorem ap {w:bb} {b:Nat} {cs:Array bc} {t:b8} (h:w.heap[b]? =X (av cs t (0,0))) (i:Nat) (u:bc):(w.setCell ⟨b,i,Y⟩ u).heap[b]? =X (av (cs.setIfInBounds i u) t (0,0)):=by
 simp only [World.setCell,Array.getElem?_modify,if_true,h];rfl
theorem aK {w:bb} {B:Nat} {e:b8} {k n:Nat} {v:bc} {c:List bc} (h:w.ownsRow B e k v n c):∃a b,v=aC a n b:=by
 rcases h.2 with ⟨rfl,rfl⟩|⟨g,b,d,rfl,_⟩
 · exact ⟨_,_,rfl⟩
 · exact ⟨_,_,rfl⟩
theorem lS {w:bb} {B:Nat} {e:b8} {k n:Nat} {v:bc} {c:List bc} (h:w.ownsRow B e k v n c):∀j,v.ownBlock=X j->j<w.heap.size:=λj b=>(h.lt j b).2
theorem ah {w w':bb} {B:Nat} {e:b8} {k:Nat} {v:bc} {n:Nat} {c:List bc} (h:w.ownsRow B e k v n c) (l:∀g,v.ownBlock=X g->w'.heap[g]? =w.heap[g]?):w'.ownsRow B e k v n c:=by
 refine ⟨h.1,?_⟩;rcases h.2 with m|⟨g,d,f,b,i,j,p⟩
 · exact .inl m
 · exact .inr ⟨g,d,f,b,i,by rw [l g (by rw [b];simp [Value.ownBlock])];exact j,p⟩
theorem bz {w:bb} {B b:Nat} {e:b8} {k:Nat} {v:bc} {n:Nat} {c:List bc} (h:w.ownsRow B e k v n c) (i:b<=B):w.ownsRow b e k v n c:=by
 refine ⟨h.1,?_⟩;rcases h.2 with l|⟨g,d,f,p,j,m⟩
 · exact .inl l
 · exact .inr ⟨g,d,f,p,cQ i j,m⟩
theorem aA {w:bb} {B e k n:Nat} {v:bc} {f:List bc} (h:w.ownsRow B e k v n f) {g:Nat} (b:v.ownBlock=X g):∃c,w.heap[g]? =X (av c e (0,0)):=by
 rcases h.2 with ⟨rfl,_⟩|⟨j,i,c,rfl,_,d,_⟩
 · cases b
 · injection b with b;subst b;exact ⟨c,d⟩
theorem df {w:bb} {g k e f:Nat} {c d:Array bc} (i:w.heap[g]? =X (av c e (0,0))) (b:w.heap[k]? =X (av d f (0,0))) (h:e≠f):g≠k:=by
 rintro rfl;rw [i] at b;injection b with b
 injection b with _ b
 exact h b
structure ag (F:Nat->Prop) (w:bb) (F':Nat->Prop) (w':bb):Prop where
 os:w'.os=w.os
 tape:w'.tape=w.tape
 output:w'.output=w.output
 size:w.heap.size<=w'.heap.size
 block:∀k,k<w.heap.size->¬F k->w'.heap[k]? =w.heap[k]?
 new:∀k,F' k->F k∨w.heap.size<=k
theorem ag.refl (F:Nat->Prop) (w:bb):ag F w F w:=⟨rfl,rfl,rfl,c5 _,λ_ _ _=>rfl,λ_ h=> .inl h⟩
theorem ag.trans {F c d:Nat->Prop} {x y z:bb} (h:ag F x c y) (k:ag c y d z):ag F x d z:=
 ⟨k.os.trans h.os,k.tape.trans h.tape,k.output.trans h.output,cQ h.size k.size,
  λj b e=>(k.block j (Nat.lt_of_lt_of_le b h.size) (λf=>by rcases h.new j f with h1|h1;exact e h1;omega)).trans (h.block j b e),
  λj b=>by
   rcases k.new j b with h1|h1
   · exact h.new j h1
   · exact .inr (cQ h.size h1)⟩
theorem ag.not {F b:Nat->Prop} {x y:bb} (h:ag F x b y) {k:Nat} (e:k<x.heap.size) (d:¬F k):¬b k:=λc=>by
 rcases h.new k c with h1|h1
 · exact d h1
 · omega
theorem ag.of_below {F:Nat->Prop} {w w':bb} (h:Bw w w'):ag F w F w':=⟨h.os,h.tape,h.output,h.size,λk b _=>h.block k b,λ_ h=> .inl h⟩
theorem ag.of_only {F:Nat->Prop} {b:Nat} {w w':bb} (h:aw b w w') (c:F b):ag F w F w':=⟨h.os,h.tape,h.output,by rw [h.size];exact c5 _,λk _ d=>h.block k (λe=>d (e ▸ c)),λ_ h=> .inl h⟩
theorem ag.below {F b:Nat->Prop} {w w':bb} {lo:Nat} (h:ag F w b w') (d:∀k,F k->lo<=k) (f:lo<=w.heap.size):Below lo w w'/\∀k,b k->lo<=k:=
 ⟨⟨h.os,h.tape,h.output,h.size,λk c=>h.block k (by omega) (λe=>by have:=d k e;omega)⟩,λk c=>by rcases h.new k c with h1|h1;exact d k h1;omega⟩
theorem ag.cell {F b:Nat->Prop} {w w':bb} (h:ag F w b w') {k:Nat} (c:k<w.heap.size) (d:¬F k) (i:Nat):w'.cell? ⟨k,i,Y⟩=w.cell? ⟨k,i,Y⟩:=ca (a:=⟨k,i,Y⟩) (h.block k c d)
theorem ag.widen {F G c:Nat->Prop} {w w':bb} (h:ag F w c w') (d:∀k,F k->G k):ag G w c w':=
 ⟨h.os,h.tape,h.output,h.size,λk b f=>h.block k b (λe=>f (d k e)),λk b=>(h.new k b).imp (d k) id⟩
theorem ag.lo {N b:Nat->Prop} {w w':bb} {lo:Nat} (h:ag N w b w') (c:∀k,N k->lo<=k) (d:lo<=w.heap.size):∀k,b k->lo<=k:=(h.below c d).2
end
section
open Go.RowKit Go.Maps Go.WideShapes Go.WideElems
open Go.ChangeMaps (setBlock heap_setBlock_same heap_setBlock_other)
set_option linter.unusedSectionVars false
section
variable {P:dy} {kt:b8} {K:Type} [DecidableEq K] {B:ez P kt K}
theorem iI {w:bb} {b:Nat} {d:Array MapEntry} {c:Nat} (e:w.heap[b]? =X (.map d c)) (o:Obj):aw b w (setBlock w b o):=
 ⟨rfl,rfl,rfl,by simp [setBlock],λ_ f=>heap_setBlock_other e o f⟩
theorem ak.entry {w:bb} {b:Nat} {l:List (K×bc)} (h:ak B w b l) (KL:WideMaps.KeyLaw P kt) {t e:b8} (ht:P.underlying t=X (.map kt e)) {z:bc} (hz:∀u:bb,(zeroValue e).run P u= .ok z u) (k:K) (H:B.ok k) (hn:l.length<maxLen):
 ∃(s:Nat) (c:Array MapEntry) (c1:Nat),(Instr.mapEntry t (aT (X b)) (B.kv k)).run P w= .ok (.tuple #[(lookL l k).getD z,J U s]) (setBlock w b (.map c c1))/\
  (setBlock w b (.map c c1)).heap[b]? =X (.map c c1)/\aw b w (setBlock w b (.map c c1))/\
  ∀(i:bb) (val:bc),i.heap[b]? =X (.map c c1)->∃N,(Instr.entryStore t (aT (X b)) (J U s) val).run P i= .ok () N/\ak B N b (putL l k val)/\aw b i N:=by
 have a4:=h.nodup;obtain ⟨C,h1,D,R⟩:=h;obtain ⟨a1,ad,j,F,ao,E⟩:=id h1;have n:=B.key k H;obtain ⟨A,s,c,c1,a7,a3,a8⟩:=entry_then_store KL ht hz j F n;have a0:C.Perm (a1.toList.map (rg P kt heldR)):=by
  injection E with E
  rw [E];exact sorted_perm _
 have a9:A=(lookL l k).getD z:=by
  rcases a3 with ⟨O,T,a2,G⟩|⟨a5,G⟩
  · obtain ⟨y,g⟩:=F.reads O T;obtain ⟨q,hq,a6⟩:=rd_val g;have f:=rd_key g;rw [a2,n] at f;injection f with f
    simp only [heldR,bw] at hq;have ac:y=(B.kl k, .held A):=ej f.symm (by rw [a6, <- hq,G]);have I:(B.kl k,DataW.held A)∈C:=a0.mem_iff.2 (List.mem_map.2 ⟨O,T,by rw [rg_of g,ac]⟩);obtain ⟨p,W,m⟩:=List.mem_map.1 (D.mem_iff.1 I);injection m with e1 e2
    injection e2 with e2
    have e3:=B.lit_inj (R p W) H e1;have:lookL l k=X A:=(bl a4).2 (by rw [<- e3, <- e2];exact W);rw [this];rfl
  · have:lookL l k=Y:=ir.2 λv hv=>by have I:(B.kl k,DataW.held v)∈C:=D.mem_iff.2 (List.mem_map.2 ⟨_,hv,rfl⟩);obtain ⟨x,hx,m⟩:=List.mem_map.1 (a0.mem_iff.1 I);obtain ⟨y,g⟩:=F.reads x hx;rw [rg_of g] at m;have f:=rd_key g;rw [m] at f;exact a5 x hx (B.keyed.inj f n)
    rw [this];exact G
 refine ⟨s,c,c1,by rw [a7,a9];rfl,heap_setBlock_same j _,iI j _,λi val M=>?_⟩;obtain ⟨al,c2,hs,hu⟩:=a8 i val M;refine ⟨_,hs,?_,iI M _⟩;obtain ⟨w',r,ho,_⟩:=h1.store B.keyed ht hn n (val:=val) (d:= .held val) (ps:=[]) rfl;rw [hu] at r;injection r with _ r
 subst r;have:=ak.put_of D R H val ho;exact this.block (by rw [heap_setBlock_same M,heap_setBlock_same j])
end
section
variable {P:dy} {o:Oper} {a:Act} {K:Act->bb->Prop} {Q:Exit->Act->bb->Prop} {w:bb}
theorem bq {t:b8} {m x:fc} (c:o.op=Op.mapEntry t m x) {v:bc} {w':bb} (d:(Instr.mapEntry t (a.eval m) (a.eval x)).run P w= .ok v w') (b:K (a.put o.dst v) w'):o.wp P a w K Q:=by
 unfold Oper.wp;simp [execOp,c,d,dp];exact b
theorem aY {t:b8} {m s x:fc} (c:o.op=Op.entryStore t m s x) {w':bb} (d:(Instr.entryStore t (a.eval m) (a.eval s) (a.eval x)).run P w= .ok () w') (b:K (a.put o.dst undef) w'):o.wp P a w K Q:=by
 unfold Oper.wp;simp [execOp,c,d,dp];exact b
end
end
section
open Go
section
variable {P:dy} {ops:Array Oper} {Q:Exit->Act->bb->Prop} {md:c3} {S:bb->Prop} {z:Nat}
def anyT (P:dy) (md:c3) (ops:Array Oper) (Q:Exit->Act->bb->Prop) (S:bb->Prop) (z:Nat):Nat->Array Bool->Act->bb->Prop
 |0,listed,a,w=>bk md ops listed=[]/\Q .normal a w
 |n+1,listed,a,w=>
  (bk md ops listed=[]->Q .normal a w)/\
  ∀i∈bk md ops listed,wpOp P ops Q i (λb w'=>(i≠z->S w')/\anyT P md ops Q S z n (listed.setIfInBounds i true) b w') a w
theorem mO:∀(n:Nat) (listed:Array Bool) (a:Act) (w:bb),anyT P md ops Q S z n listed a w->wpAny P md ops Q n listed a w
 |0,_,_,_,h=>h
 |n+1,_,_,_,h=>⟨h.1,λi d=>wpOp_mono (λb w' c=>mO n _ b w' c.2) (h.2 i d)⟩
def oT (md:c3) (ops:Array Oper) (z i:Nat):Bool:=match ops[z]? with
 |some o=>o.after.any λe=>cy md e&&e.on==i
 |none=>false
theorem wP {i:Nat} {g:Array Bool} (c:oT md ops z i=true) (h:g.getD i true=false):z∉bk md ops g:=by
 intro m;obtain ⟨_,o,l,j⟩:=mem_ready.1 m;unfold oT at c;rw [l] at c;simp only at c;obtain ⟨e,k,f⟩:=Array.any_eq_true'.1 c;simp only [bY,beq_iff_eq] at f;have b:=j e k f.1;rw [f.2] at b;rcases da i g.size with d|d
 · simp [d] at h b;rw [h] at b;cases b
 · simp [bt d] at b
theorem uS {i:Nat} {g:Oper} {v:bc} (s:ops[i]? =X g) (C:∀(j:Nat) (o:Oper) cs b,ops[j]? =X o->o.op≠ .select cs b)
 (I:∀c a w,Q (.panic c) (a.put g.dst v) w->Q (.panic c) a w) (hz:oT md ops z i=true) (a5:i≠z):
 ∀(n:Nat) (d:Array Bool) (a:Act) (w:bb),
  (∀j f,ops[j]? =X f->j≠i->d.getD j true=false->(∀e∈f.after,cy md e=true->e.on≠i)->g.apart ops f=true)->
  i∈bk md ops d->YieldsIf P ops S g v a->S w->
  anyT P md ops Q S z n (d.setIfInBounds i true) (a.put g.dst v) w->anyT P md ops Q S z (n+1) d a w:=by
 intro n;induction n with
 |zero=>
  intro d a w _ p q l H;refine ⟨λh=>absurd p (by rw [h];simp),λj m=>?_⟩;by_cases hji:j=i
  · subst hji;exact q.wpOp s l ⟨λ_=>l,H⟩
  · exact absurd (c6 m hji) (by rw [H.1];simp)
 |succ n ih=>
  intro d a w y p q l H;have u:=(mem_ready.1 p).1;refine ⟨λh=>absurd p (by rw [h];simp),λj m=>?_⟩;by_cases hji:j=i
  · subst hji;exact q.wpOp s l ⟨λ_=>l,H⟩
  · have T:j≠z:=λe=>wP hz u (e ▸ m);obtain ⟨A,f,t,M⟩:=mem_ready.1 m;have a3:∀e∈f.after,cy md e=true->e.on≠i:=by
     intro e O N R;have h1:=M e O N;rw [R] at h1;rcases da i d.size with r|r
     · simp [r] at u h1;rw [u] at h1;cases h1
     · simp [bt r] at h1
    have F:=wpOp_putIf t (y j f t hji A a3) (λcs b=>C i g cs b s) (λcs b=>C j f cs b t) I q (H.2 j (c6 m hji));refine wpOp_mono (λE w' G=>?_) F;obtain ⟨a4,x,D⟩:=G;refine ⟨x,ih (d.setIfInBounds j true) E w' ?_ (c6 p (Ne.symm hji)) a4 (x T) ?_⟩
    · intro k ok W a0 a1 a2;refine y k ok W a0 ?_ a2;by_cases hjk:j=k
      · subst hjk;exact A
      · rwa [getD_set_ne true hjk] at a1
    · rw [cq _ _ hji];exact D
theorem bU {i:Nat} {d:Oper} {v:bc} {n:Nat} {b:Array Bool} {a:Act} {w:bb} (e:ops[i]? =X d)
 (m:bO ops=true) (j:b7 md ops b i=true) (l:(bk md ops b).contains i=true) (q:oT md ops z i=true) (k:i≠z)
 (f:∀c a w,Q (.panic c) (a.put d.dst v) w->Q (.panic c) a w) (g:S w) (p:YieldsIf P ops S d v a)
 (h:anyT P md ops Q S z n (b.setIfInBounds i true) (a.put d.dst v) w):anyT P md ops Q S z (n+1) b a w:=
 uS e (Region.noSelect_spec m) f q k n b a w (Region.free_spec e j) (by simpa using l) p g h
theorem C7 {i:Nat} {o:Oper} {n:Nat} {c:Array Bool} {a:Act} {w:bb} (l:ops[i]? =X o) (e:bk md ops c=[i]) (k:o.guard=Y)
 (h:∀K:Act->bb->Prop,(∀b w',(i≠z->S w')->anyT P md ops Q S z n (c.setIfInBounds i true) b w'->K b w')->o.wp P a w K Q):anyT P md ops Q S z (n+1) c a w:=by
 refine ⟨λf=>absurd f (by rw [e];simp),λj d=>?_⟩;rw [e] at d;obtain rfl:j=i:=by simpa using d
 unfold wpOp;rw [l];simp only [bp,k,if_true];exact .inl (h _ λb w' h1 g=>⟨h1,g⟩)
theorem CM {c:Array Bool} {a:Act} {w:bb} (b:bk md ops c=[]) (h:Q .normal a w):∀n,anyT P md ops Q S z n c a w
 |0=>⟨b,h⟩
 |_+1=>⟨λ_=>h,by rw [b];simp⟩
theorem BR {id:Nat} {l:List Oper} {a:Act} {w:bb} (S:bb->Prop) (z:Nat) (b:P.follows .mixedOrders=true)
 (h:anyT P .any l.toArray Q S z l.toArray.size (dn l.toArray.size false) a w.drew):(Code.region id l.toArray true).wp P Q a w:=
 wp_region_any b (mO _ _ _ _ h)
end
end
section
open Go.RowKit
section
variable {P:dy} {md:c3} {ops:Array Oper} {Q:Exit->Act->bb->Prop} {S:bb->Prop} {z:Nat}
theorem s9 {i:Nat} {g:Oper} {v:bc} (t:ops[i]? =X g) (A:∀(j:Nat) (o:Oper) cs b,ops[j]? =X o->o.op≠ .select cs b)
 (I:∀c a w,Q (.panic c) (a.put g.dst v) w->Q (.panic c) a w) (hz:ops[z]? =Y):
 ∀(n:Nat) (d:Array Bool) (a:Act) (w:bb),
  (∀j f,ops[j]? =X f->j≠i->d.getD j true=false->(∀e∈f.after,cy md e=true->e.on≠i)->g.apart ops f=true)->
  i∈bk md ops d->YieldsIf P ops S g v a->S w->
  anyT P md ops Q S z n (d.setIfInBounds i true) (a.put g.dst v) w->anyT P md ops Q S z (n+1) d a w:=by
 intro n;induction n with
 |zero=>
  intro d a w _ p r l H;refine ⟨λh=>absurd p (by rw [h];simp),λj q=>?_⟩;by_cases hji:j=i
  · subst hji;exact r.wpOp t l ⟨λ_=>l,H⟩
  · exact absurd (c6 q hji) (by rw [H.1];simp)
 |succ n ih=>
  intro d a w x p r l H;have C:=(mem_ready.1 p).1;refine ⟨λh=>absurd p (by rw [h];simp),λj q=>?_⟩;by_cases hji:j=i
  · subst hji;exact r.wpOp t l ⟨λ_=>l,H⟩
  · obtain ⟨y,f,m,M⟩:=mem_ready.1 q;have T:j≠z:=λe=>by rw [e,hz] at m;cases m
    have a3:∀e∈f.after,cy md e=true->e.on≠i:=by
     intro e O N R;have h1:=M e O N;rw [R] at h1;rcases da i d.size with s|s
     · simp [s] at C h1;rw [C] at h1;cases h1
     · simp [bt s] at h1
    have F:=wpOp_putIf m (x j f m hji y a3) (λcs b=>A i g cs b t) (λcs b=>A j f cs b m) I r (H.2 j (c6 q hji));refine wpOp_mono (λE w' G=>?_) F;obtain ⟨a4,u,D⟩:=G;refine ⟨u,ih (d.setIfInBounds j true) E w' ?_ (c6 p (Ne.symm hji)) a4 (u T) ?_⟩
    · intro k ok W a0 a1 a2;refine x k ok W a0 ?_ a2;by_cases hjk:j=k
      · subst hjk;exact y
      · rwa [getD_set_ne true hjk] at a1
    · rw [cq _ _ hji];exact D
theorem bZ {i:Nat} {d:Oper} {v:bc} {n:Nat} {b:Array Bool} {a:Act} {w:bb} (e:ops[i]? =X d)
 (l:bO ops=true) (j:b7 md ops b i=true) (k:(bk md ops b).contains i=true) (p:ops[z]? =Y)
 (f:∀c a w,Q (.panic c) (a.put d.dst v) w->Q (.panic c) a w) (g:S w) (m:YieldsIf P ops S d v a)
 (h:anyT P md ops Q S z n (b.setIfInBounds i true) (a.put d.dst v) w):anyT P md ops Q S z (n+1) b a w:=
 s9 e (Region.noSelect_spec l) f p n b a w (Region.free_spec e j) (by simpa using k) m g h
theorem C5 {i:Nat} {o:Oper} {n:Nat} {c:Array Bool} {a:Act} {w:bb} (l:ops[i]? =X o) (e:bk md ops c=[i]) (k:bp o (yielded ops a.tmps)=true)
 (h:∀K:Act->bb->Prop,(∀b w',(i≠z->S w')->anyT P md ops Q S z n (c.setIfInBounds i true) b w'->K b w')->o.wp P a w K Q):anyT P md ops Q S z (n+1) c a w:=by
 refine ⟨λf=>absurd f (by rw [e];simp),λj d=>?_⟩;rw [e] at d;obtain rfl:j=i:=by simpa using d
 unfold wpOp;rw [l];simp only [k,if_true];exact .inl (h _ λb w' h1 g=>⟨h1,g⟩)
theorem cH {i j:Nat} {o f:Oper} {n:Nat} {d:Array Bool} {a:Act} {w:bb} (p:ops[i]? =X o) (q:ops[j]? =X f)
 (g:bk md ops d=[i,j]) (l:o.guard=Y) (m:f.guard=Y)
 (h1:∀K:Act->bb->Prop,(∀b w',(i≠z->S w')->anyT P md ops Q S z n (d.setIfInBounds i true) b w'->K b w')->o.wp P a w K Q)
 (c:∀K:Act->bb->Prop,(∀b w',(j≠z->S w')->anyT P md ops Q S z n (d.setIfInBounds j true) b w'->K b w')->f.wp P a w K Q):anyT P md ops Q S z (n+1) d a w:=by
 refine ⟨λh=>absurd h (by rw [g];simp),λk e=>?_⟩;rw [g] at e;simp only [bA,List.not_mem_nil,or_false] at e;rcases e with rfl|rfl
 · unfold wpOp;rw [p];simp only [bp,l,if_true];exact .inl (h1 _ λb w' h1 c=>⟨h1,c⟩)
 · unfold wpOp;rw [q];simp only [bp,m,if_true];exact .inl (c _ λb w' h1 c=>⟨h1,c⟩)
theorem mQ {i j k:Nat} {o f g:Oper} {n:Nat} {d:Array Bool} {a:Act} {w:bb} (t:ops[i]? =X o) (u:ops[j]? =X f) (v:ops[k]? =X g)
 (h:bk md ops d=[i,j,k]) (p:o.guard=Y) (r:f.guard=Y) (s:g.guard=Y)
 (h1:∀K:Act->bb->Prop,(∀b w',(i≠z->S w')->anyT P md ops Q S z n (d.setIfInBounds i true) b w'->K b w')->o.wp P a w K Q)
 (c:∀K:Act->bb->Prop,(∀b w',(j≠z->S w')->anyT P md ops Q S z n (d.setIfInBounds j true) b w'->K b w')->f.wp P a w K Q)
 (m:∀K:Act->bb->Prop,(∀b w',(k≠z->S w')->anyT P md ops Q S z n (d.setIfInBounds k true) b w'->K b w')->g.wp P a w K Q):anyT P md ops Q S z (n+1) d a w:=by
 refine ⟨λl=>absurd l (by rw [h];simp),λq e=>?_⟩;rw [h] at e;simp only [bA,List.not_mem_nil,or_false] at e;rcases e with rfl|rfl|rfl
 · unfold wpOp;rw [t];simp only [bp,p,if_true];exact .inl (h1 _ λb w' h1 c=>⟨h1,c⟩)
 · unfold wpOp;rw [u];simp only [bp,r,if_true];exact .inl (c _ λb w' h1 c=>⟨h1,c⟩)
 · unfold wpOp;rw [v];simp only [bp,s,if_true];exact .inl (m _ λb w' h1 c=>⟨h1,c⟩)
end
end
section
variable {P:dy} {md:c3} {ops:Array Oper} {Q:Exit->Act->bb->Prop} {S:bb->Prop} {z:Nat}
def TL (_:List Nat):Prop:=True
theorem tkL (l:List Nat):TL l:=trivial
theorem tkO {i:Nat} {is:List Nat} (_:TL (i::is)):TL is:=trivial
theorem tk {n:Nat} {d:Array Bool} {a:Act} {w:bb} {b:Oper} (i:Nat) (v:bc) (k:ops[i]? =X b) (f:S w)
 (q:∀w',S w'->(execOp a.eval b).run P w'= .ok (.value v) w') (h:anyT P md ops Q S z n (d.setIfInBounds i true) (a.put b.dst v) w)
 (j:bp b (yielded ops a.tmps)=true:=by rfl) (p:bO ops=true:=by kernel_rfl) (g:b7 md ops d i=true:=by kernel_rfl)
 (m:(bk md ops d).contains i=true:=by kernel_rfl) (r:oT md ops z i=true:=by kernel_rfl) (l:i≠z:=by decide)
 (e:∀c a w,Q (.panic c) (a.put b.dst v) w->Q (.panic c) a w:=by exact λ_ _ _ h=>h):anyT P md ops Q S z (n+1) d a w:=
 bU k p g m r l e f (Or.inl ⟨j,q⟩) h
theorem tkI {n:Nat} {d:Array Bool} {a:Act} {w:bb} {b:Oper} {i:Nat} {is:List Nat} (_:TL (i::is)) (v:bc) (k:ops[i]? =X b) (f:S w)
 (q:∀w',S w'->(execOp a.eval b).run P w'= .ok (.value v) w') (h:anyT P md ops Q S z n (d.setIfInBounds i true) (a.put b.dst v) w)
 (j:bp b (yielded ops a.tmps)=true:=by rfl) (p:bO ops=true:=by kernel_rfl) (g:b7 md ops d i=true:=by kernel_rfl)
 (m:(bk md ops d).contains i=true:=by kernel_rfl) (r:oT md ops z i=true:=by kernel_rfl) (l:i≠z:=by decide)
 (e:∀c a w,Q (.panic c) (a.put b.dst v) w->Q (.panic c) a w:=by exact λ_ _ _ h=>h):anyT P md ops Q S z (n+1) d a w:=
 tk i v k f q h j p g m r l e
theorem tf {n:Nat} {b:Array Bool} {a:Act} {w:bb} {d:Oper} (i:Nat) (k:ops[i]? =X d) (f:S w)
 (h:anyT P md ops Q S z n (b.setIfInBounds i true) (a.put d.dst undef) w)
 (j:bp d (yielded ops a.tmps)=false:=by rfl) (p:bO ops=true:=by kernel_rfl) (g:b7 md ops b i=true:=by kernel_rfl)
 (m:(bk md ops b).contains i=true:=by kernel_rfl) (q:oT md ops z i=true:=by kernel_rfl) (l:i≠z:=by decide)
 (e:∀c a w,Q (.panic c) (a.put d.dst undef) w->Q (.panic c) a w:=by exact λ_ _ _ h=>h):anyT P md ops Q S z (n+1) b a w:=
 bU k p g m q l e f (Or.inr ⟨j,rfl⟩) h
theorem tkS {n:Nat} {d:Array Bool} {a:Act} {w:bb} {b:Oper} (i:Nat) (v:bc) (k:ops[i]? =X b) (f:S w)
 (p:∀w',S w'->(execOp a.eval b).run P w'= .ok (.value v) w') (h:anyT P md ops Q S z n (d.setIfInBounds i true) (a.put b.dst v) w)
 (j:bp b (yielded ops a.tmps)=true:=by rfl) (m:bO ops=true:=by kernel_rfl) (g:b7 md ops d i=true:=by kernel_rfl)
 (l:(bk md ops d).contains i=true:=by kernel_rfl) (q:ops[z]? =Y:=by rfl)
 (e:∀c a w,Q (.panic c) (a.put b.dst v) w->Q (.panic c) a w:=by exact λ_ _ _ h=>h):anyT P md ops Q S z (n+1) d a w:=
 bZ k m g l q e f (Or.inl ⟨j,p⟩) h
theorem tkIS {n:Nat} {d:Array Bool} {a:Act} {w:bb} {b:Oper} {i:Nat} {is:List Nat} (_:TL (i::is)) (v:bc) (k:ops[i]? =X b) (f:S w)
 (p:∀w',S w'->(execOp a.eval b).run P w'= .ok (.value v) w') (h:anyT P md ops Q S z n (d.setIfInBounds i true) (a.put b.dst v) w)
 (j:bp b (yielded ops a.tmps)=true:=by rfl) (m:bO ops=true:=by kernel_rfl) (g:b7 md ops d i=true:=by kernel_rfl)
 (l:(bk md ops d).contains i=true:=by kernel_rfl) (q:ops[z]? =Y:=by rfl)
 (e:∀c a w,Q (.panic c) (a.put b.dst v) w->Q (.panic c) a w:=by exact λ_ _ _ h=>h):anyT P md ops Q S z (n+1) d a w:=
 tkS i v k f p h j m g l q e
theorem tfS {n:Nat} {b:Array Bool} {a:Act} {w:bb} {d:Oper} (i:Nat) (k:ops[i]? =X d) (f:S w)
 (h:anyT P md ops Q S z n (b.setIfInBounds i true) (a.put d.dst undef) w)
 (j:bp d (yielded ops a.tmps)=false:=by rfl) (m:bO ops=true:=by kernel_rfl) (g:b7 md ops b i=true:=by kernel_rfl)
 (l:(bk md ops b).contains i=true:=by kernel_rfl) (p:ops[z]? =Y:=by rfl)
 (e:∀c a w,Q (.panic c) (a.put d.dst undef) w->Q (.panic c) a w:=by exact λ_ _ _ h=>h):anyT P md ops Q S z (n+1) b a w:=
 bZ k m g l p e f (Or.inr ⟨j,rfl⟩) h
theorem dO {n:Nat} {b:Array Bool} {a:Act} {w:bb} {o:Oper} (i:Nat) (e:ops[i]? =X o)
 (h:∀K:Act->bb->Prop,(∀c w',(i≠z->S w')->anyT P md ops Q S z n (b.setIfInBounds i true) c w'->K c w')->o.wp P a w K Q)
 (f:bk md ops b=[i]:=by kernel_rfl) (d:o.guard=Y:=by rfl):anyT P md ops Q S z (n+1) b a w:=
 C7 e f d h
theorem dB {n:Nat} {b:Array Bool} {a:Act} {w:bb} {o:Oper} (i:Nat) (e:ops[i]? =X o)
 (h:∀K:Act->bb->Prop,(∀c w',(i≠z->S w')->anyT P md ops Q S z n (b.setIfInBounds i true) c w'->K c w')->o.wp P a w K Q)
 (f:bk md ops b=[i]:=by kernel_rfl) (d:bp o (yielded ops a.tmps)=true:=by rfl):anyT P md ops Q S z (n+1) b a w:=
 C5 e f d h
theorem dN {n:Nat} {b:Array Bool} {a:Act} {w:bb} (h:Q .normal a w) (c:bk md ops b=[]:=by kernel_rfl):anyT P md ops Q S z n b a w:=CM c h n
theorem wT {id:Nat} {l:List Oper} {a:Act} {w:bb} (S:bb->Prop) (z:Nat)
 (h:anyT P .any l.toArray Q S z l.toArray.size (dn l.toArray.size false) a w.drew) (b:P.follows .mixedOrders=true:=by kernel_rfl):(Code.region id l.toArray true).wp P Q a w:=
 BR S z b h
theorem Dp {n:Nat} {b:Array Bool} {a:Act} {w:bb} {o:Oper} (i:Nat)
 (h:∀K:Act->bb->Prop,(∀c w',(i≠z->S w')->anyT P md ops Q S z n (b.setIfInBounds i true) c w'->K c w')->o.wp P a w K Q)
 (e:ops[i]? =X o:=by exact rfl) (f:bk md ops b=[i]:=by kernel_rfl) (d:o.guard=Y:=by rfl):anyT P md ops Q S z (n+1) b a w:=
 C7 e f d h
theorem Dj {n:Nat} {b:Array Bool} {a:Act} {w:bb} {o:Oper} {i:Nat} {is:List Nat} (_:TL (i::is))
 (h:∀K:Act->bb->Prop,(∀c w',(i≠z->S w')->anyT P md ops Q S z n (b.setIfInBounds i true) c w'->K c w')->o.wp P a w K Q)
 (e:ops[i]? =X o:=by exact rfl) (f:bk md ops b=[i]:=by kernel_rfl) (d:o.guard=Y:=by rfl):anyT P md ops Q S z (n+1) b a w:=
 C7 e f d h
theorem Dq {n:Nat} {b:Array Bool} {a:Act} {w:bb} {o:Oper} (i:Nat)
 (h:∀K:Act->bb->Prop,(∀c w',(i≠z->S w')->anyT P md ops Q S z n (b.setIfInBounds i true) c w'->K c w')->o.wp P a w K Q)
 (e:ops[i]? =X o:=by exact rfl) (f:bk md ops b=[i]:=by kernel_rfl) (d:bp o (yielded ops a.tmps)=true:=by rfl):anyT P md ops Q S z (n+1) b a w:=
 C5 e f d h
theorem Wb {id:Nat} {l:List Oper} {a:Act} {w:bb} (v:bb) (z:Nat)
 (h:anyT P .any l.toArray Q (λW=>Go.RowKit.Below v.heap.size v W) z l.toArray.size (dn l.toArray.size false) a w.drew) (b:P.follows .mixedOrders=true:=by kernel_rfl):(Code.region id l.toArray true).wp P Q a w:=
 BR _ z b h
theorem Qa {G b q:Prop} (l:List Nat) (x:q) (g:b) (h:TL l->q->Go.RowKit.Hid b->G:=by intro z x k;(repeat (refine tkI z ?_ rfl x ?_ ?_;rotate_left;intro w' h;go_simp;rfl;(try go_simp);replace z:=tkO z));exact k.o):G:=h trivial x g
theorem Qc {G b q:Prop} (l:List Nat) (x:q) (g:b) (h:TL l->q->Go.RowKit.Hid b->G:=by intro z x k;(repeat (refine tkIS z ?_ rfl x ?_ ?_;rotate_left;intro w' h;go_simp;rfl;(try go_simp);replace z:=tkO z));exact k.o):G:=h trivial x g
theorem Qb {G b q:Prop} {T F:bb->Prop} (l:List Nat) (x:q) (f:∀w,T w->F w) (g:b) (h:TL l->q->Go.RowKit.Hid (∀w,T w->F w)->Go.RowKit.Hid b->G:=by intro z x f k;(repeat (refine tkI z ?_ rfl x ?_ ?_;rotate_left;intro w' h;have q:=f w' h;go_simp;rfl;(try go_simp);replace z:=tkO z));exact k.o):G:=h trivial x f g
theorem Qd {G b q:Prop} {T F:bb->Prop} (l:List Nat) (x:q) (f:∀w,T w->F w) (g:b) (h:TL l->q->Go.RowKit.Hid (∀w,T w->F w)->Go.RowKit.Hid b->G:=by intro z x f k;(repeat (refine tkIS z ?_ rfl x ?_ ?_;rotate_left;intro w' h;have q:=f w' h;go_simp;rfl;(try go_simp);replace z:=tkO z));exact k.o):G:=h trivial x f g
theorem Dl {G b:Prop} (i:Nat) (g:b) (h:TL [i]->Go.RowKit.Hid b->G:=by intro z k;refine Dj z λK O=>?_;go_simp;refine O _ _ (λh=>absurd rfl h) ?_;clear O K;refine dN ?_;exact k.o):G:=h trivial g
theorem Ds {G b q:Prop} (i:Nat) (x:q) (g:b) (h:TL [i]->q->Go.RowKit.Hid b->G:=by intro z x k;refine Dj z λK O=>?_;go_simp;refine O _ _ (λ_=>x) ?_;clear O K;exact k.o):G:=h trivial x g
theorem tfIS {n:Nat} {b:Array Bool} {a:Act} {w:bb} {d:Oper} {i:Nat} {is:List Nat} (_:TL (i::is)) (k:ops[i]? =X d) (f:S w)
 (h:anyT P md ops Q S z n (b.setIfInBounds i true) (a.put d.dst undef) w)
 (j:bp d (yielded ops a.tmps)=false:=by rfl) (m:bO ops=true:=by kernel_rfl) (g:b7 md ops b i=true:=by kernel_rfl)
 (l:(bk md ops b).contains i=true:=by kernel_rfl) (p:ops[z]? =Y:=by rfl)
 (e:∀c a w,Q (.panic c) (a.put d.dst undef) w->Q (.panic c) a w:=by exact λ_ _ _ h=>h):anyT P md ops Q S z (n+1) b a w:=
 tfS i k f h j m g l p e
theorem Qg {G b q:Prop} (l:List Nat) (x:q) (g:b) (h:TL l->q->Go.RowKit.Hid b->G:=by intro z x k;(repeat (refine tfIS z rfl x ?_;(try go_simp);replace z:=tkO z));exact k.o):G:=h trivial x g
theorem eql_if {w:bb} {a b c d:Int} {t:Bool} (h:decide (a=c/\b=d)=t):(if a=c then if b=d then Result.ok (Next.value (ee true)) w else Result.ok (Next.value (ee false)) w else Result.ok (Next.value (ee false)) w)=Result.ok (Next.value (ee t)) w:=by
 subst h;by_cases h1:a=c<;>by_cases h2:b=d<;>simp [h1,h2]
theorem Qh {G b q r:Prop} (l:List Nat) (x:q) (e:r) (g:b) (h:TL l->q->Go.RowKit.Hid r->Go.RowKit.Hid b->G:=by intro z x e k;refine tkIS z ?_ rfl x ?_ ?_;rotate_left;intro w' h;go_simp;exact eql_if e.o;(try go_simp);exact k.o):G:=h trivial x e g
theorem calls2 {n:Nat} {f:Array Bool} {a m l p q:Act} {w:bb} {o g:Oper} {C k:bb->Prop} (i j:Nat) (x:S w) (c:∀W,S W->C W) (r:∀W,S W->k W)
 (h:∀W,S W->anyT P md ops Q S z n ((f.setIfInBounds i true).setIfInBounds j true) l W)
 (u:ops[i]? =X o:=by exact rfl) (v:ops[j]? =X g:=by exact rfl)
 (h1:Go.RowKit.Hid (∀W,S W->C W)->∀K W,S W->(∀b,S b->K m b)->o.wp P a W K Q:=by intro c K W x h;go_simp;refine c7 (c W x) ?_;rintro e b ⟨rfl,y⟩;exact h b y)
 (A:Go.RowKit.Hid (∀W,S W->k W)->∀K W,S W->(∀b,S b->K l b)->g.wp P m W K Q:=by intro c K W x h;go_simp;refine c7 (c W x) ?_;rintro e b ⟨rfl,y⟩;exact h b y)
 (D:Go.RowKit.Hid (∀W,S W->k W)->∀K W,S W->(∀b,S b->K p b)->g.wp P a W K Q:=by intro c K W x h;go_simp;refine c7 (c W x) ?_;rintro e b ⟨rfl,y⟩;exact h b y)
 (E:Go.RowKit.Hid (∀W,S W->C W)->∀K W,S W->(∀b,S b->K q b)->o.wp P p W K Q:=by intro c K W x h;go_simp;refine c7 (c W x) ?_;rintro e b ⟨rfl,y⟩;exact h b y)
 (F:q=l:=by rfl) (G:i≠j:=by decide)
 (H:bk md ops f=[i,j]:=by kernel_rfl) (I:bk md ops (f.setIfInBounds i true)=[j]:=by kernel_rfl) (M:bk md ops (f.setIfInBounds j true)=[i]:=by kernel_rfl)
 (s:o.guard=Y:=by rfl) (t:g.guard=Y:=by rfl):anyT P md ops Q S z (n+2) f a w:=
 cH u v H s t
  (λ_ d=>h1 c _ _ x λb y=>d _ _ (λ_=>y) (C7 v I t λ_ d=>A r _ _ y λ_ y=>d _ _ (λ_=>y) (h _ y)))
  (λ_ d=>D r _ _ x λb y=>d _ _ (λ_=>y) (C7 u M s λ_ d=>E c _ _ y λ_ y=>d _ _ (λ_=>y) (by rw [F, <- cq _ _ G];exact h _ y)))
theorem call1 {n:Nat} {d:Array Bool} {a f:Act} {w:bb} {o:Oper} {C:bb->Prop} (i:Nat) (x:S w) (c:∀W,S W->C W)
 (h:∀W,S W->anyT P md ops Q S z n (d.setIfInBounds i true) f W)
 (k:ops[i]? =X o:=by exact rfl)
 (h1:Go.RowKit.Hid (∀W,S W->C W)->∀K W,S W->(∀b,S b->K f b)->o.wp P a W K Q:=by intro c K W x h;go_simp;refine c7 (c W x) ?_;rintro e b ⟨rfl,y⟩;exact h b y)
 (l:bk md ops d=[i]:=by kernel_rfl) (j:bp o (yielded ops a.tmps)=true:=by rfl):anyT P md ops Q S z (n+1) d a w:=
 C5 k l j λ_ g=>h1 c _ _ x λ_ y=>g _ _ (λ_=>y) (h _ y)
end
section
open Go.RowKit
def upB (c:UInt8):UInt8:=if 97<=c.toNat/\c.toNat<=122 then c - 32 else c
theorem mq (s:Bs):∀c∈isbnGo s,(digitB c||xB c)=true:=by
 induction s with
 |nil=>intro c h;cases h
 |cons d l ih=>
  intro c h;unfold isbnGo at h;split at h
  · rename_i h1;rcases List.mem_cons.1 h with rfl|h
    · exact h1
    · exact ih c h
  · split at h
    · exact ih c h
    · cases h
theorem qT {c:UInt8} (h:digitB c=true):upB c=c:=by
 unfold digitB at h;simp only [bY,decide_eq_true_eq] at h;unfold upB;rw [if_neg (by omega)]
theorem ym:∀c:UInt8,(digitB c||xB c)=true->digitB (upB c)=digitB c/\xB (upB c)=xB c/\(decide (upB c=88)=xB c)/\valB (upB c)<=40:=by
 have:∀n:Fin 256,(digitB (bs n.val)||xB (bs n.val))=true->digitB (upB (bs n.val))=digitB (bs n.val)/\xB (upB (bs n.val))=xB (bs n.val)/\(decide (upB (bs n.val)=88)=xB (bs n.val))/\valB (upB (bs n.val))<=40:=by decide+kernel
 intro c;have h:=this ⟨c.toNat,c.toNat_lt⟩;simpa using h
theorem oB (l:Bs) (h:∀c∈l,(digitB c||xB c)=true):(l.map upB).all digitB=l.all digitB:=by
 induction l with
 |nil=>rfl
 |cons c l ih=>simp only [b4,List.all_cons];rw [ih λx b=>h x (b6 _ b),(ym c (h c bB)).1]
theorem uZ (l:Bs) (h:l.all digitB=true):l.map upB=l:=by
 induction l with
 |nil=>rfl
 |cons c l ih=> simp only [List.all_cons,bY] at h;simp only [b4];rw [qT h.1,ih h.2]
def tenSum:Nat->Bs->Nat
 |_,[]=>0
 |k,c::l=>(10 - k) * (if c=88 then 10 else valB c)+tenSum (k+1) l
theorem Ap (k:Nat) (l:Bs) (h:∀c∈l,(digitB c||xB c)=true):tenSum k (l.map upB)=q8 k l:=by
 induction l generalizing k with
 |nil=>rfl
 |cons c l ih=>
  have f:=ym c (h c bB);simp only [b4];unfold tenSum q8;rw [ih (k+1) λx b=>h x (b6 _ b)];have e:(upB c=88)↔xB c=true:=by rw [<- f.2.2.1];simp
  by_cases b:xB c=true
  · rw [if_pos (e.2 b),if_pos b]
  · rw [if_neg (λd=>b (e.1 d)),if_neg b]
    have g:digitB c=true:=by have:=h c bB;simp only [cd] at this;rcases this with h1|h1
                             · exact h1
                             · exact absurd h1 b
    rw [qT g]
def fH (u:Bs):Option Bs:=
 if u.length=10/\(tenSum 0 u%11=0/\(u.take 9).all digitB=true) then X ([57,55,56]++u.take 9++[checkR ([57,55,56]++u.take 9)])
 else if u.length=13/\u.all digitB=true/\checkR u=u.getD 12 0 then X u
 else Y
theorem Cw (s:Bs):fH ((isbnGo s).map upB)=isbnR s:=by
 have b:=mq s;unfold fH isbnR;simp only;generalize isbnGo s=o at b;rw [cz, <- List.map_take,oB (o.take 9) λc f=>b c (List.mem_of_mem_take f),Ap 0 o b];have d:(q8 0 o%11=0/\(o.take 9).all digitB=true)↔Aq o=true:=by unfold Aq;simp
 by_cases h1:o.length=10/\Aq o=true
 · have e:=(d.2 h1.2).2;rw [if_pos ⟨h1.1,d.2 h1.2⟩,if_pos h1,uZ _ e]
 · rw [if_neg λh=>h1 ⟨h.1,d.1 h.2⟩,if_neg h1];unfold gm;rw [oB o b];by_cases h3:o.all digitB=true
   · rw [uZ _ h3]
   · rw [if_neg λh=>h3 h.2.1,if_neg λh=>h3 h.2.1]
end
section
def numR (n:Nat):Bs:=if n<128 then [bs n] else bs (n%128+128)::numR (n / 128)
termination_by n
decreasing_by omega
theorem jc {n:Nat} (h:n<128):numR n=[bs n]:=by rw [numR,if_pos h]
theorem lZ {n:Nat} (h:¬n<128):numR n=bs (n%128+128)::numR (n / 128):=by rw [numR,if_neg h]
theorem ofNat_toNat {n:Nat} (h:n<256):(bs n).toNat=n:=by rw [UInt8.toNat_ofNat'];omega
theorem rM (n:Nat):numR n≠[]:=by
 by_cases h:n<128
 · rw [jc h];simp
 · rw [lZ h];simp
theorem kE (n:Nat):∀k,n<128^(k+1)->(numR n).length<=k+1:=by
 induction n using Nat.strongRecOn with
 |ind n ih=>
  intro k b;by_cases h:n<128
  · rw [jc h];simp
  · rw [lZ h];cases k with
    |zero=>simp at b;omega
    |succ k=> have:=ih (n / 128) (by omega) k (by rw [Nat.pow_succ] at b;omega);simp;omega
theorem pM (n:Nat):1<=(numR n).length:=by have:=rM n;cases h:numR n with |nil=>exact absurd h this|cons=>simp
def cW (n:Int):Nat:=if 0<=n then (2 * n).toNat else (-2 * n - 1).toNat
def packR (l:List Bs):Bs:=numR l.length++l.flatMap λs=>numR s.length++s
def intsR (l:List Int):Bs:=numR l.length++l.flatMap λn=>numR (cW n)
end
end Go.Proofs.YtjcimanddakkaaaGreatDoor
