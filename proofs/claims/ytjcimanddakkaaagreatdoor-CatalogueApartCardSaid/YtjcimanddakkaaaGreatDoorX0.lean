/- Lemmas. -/
import Derived.WalkKit
import Derived.WalkSpells
import Derived.WalkLawsBesides
import Derived.Lib.Hide
import Derived.Lib.Strings
import Derived.Lib.RuneBytes
import Derived.Lib.TrimUEq
import Derived.Lib.MapLaws
import Derived.Maps.Own
import Derived.Maps.OwnOps
import Derived.Maps.OwnSet
import Derived.Maps.Ext
import Derived.Maps.RangeWalk
import Derived.Maps.AppendAt
import Derived.WideKeyEntry
import Derived.OrdersHeld
set_option maxRecDepth 100000
set_option maxHeartbeats 8000000
namespace Go.Proofs.YtjcimanddakkaaaGreatDoor
open Go renaming World→a0a,Value→a0b,TypeId→a0t,ready_mono→a0L,Program→a0W,Operand→a1d
open Go.Region renaming ready→a0c,wanted→a0g,noSelect→a0o,free→a0u,binds→a0E,Mode→a0J
open _root_.List renaming mem_cons_self→a0d,mem_cons→a0h,range→a0i,mem_cons_of_mem→a0k,takeWhile_cons→a0m,take_succ_eq_append_getElem→a0n,pairwise_map→a0p,length_append→a0q,getD_eq_getElem?_getD→a0r,map_cons→a0s,length_filter_le→a0w,any_eq_true→a0y,mem_filter→a0z,find?_eq_none→a0A,length_map→a0F,find?_cons→a0G,flatMap_cons→a0M,filter_congr→a0N,length_cons→a0P,getElem_mem→a0Q,filter_cons→a0R,cons_append→a0S,perm_ext_iff_of_nodup→a0Y,getElem?_eq_getElem→a01,getElem_cons_zero→a04,getElem_cons_succ→a05,take_succ_cons→a09,flatMap_append→a1a,filter_sublist→a1b,mem_singleton→a1e
open _root_.Array renaming getElem?_eq_none→a0e,setIfInBounds_comm→a00
open _root_.Option.some renaming injEq→a0f
open _root_.Bool renaming and_eq_true→a0j,not_eq_true'→a0v,or_eq_true→a0H,eq_iff_iff→a0V
open _root_.UInt8 renaming ofNat→a0l
open Go.World renaming cell?_of_block→a0x
open Go.DataW.held renaming injEq→a0B
open _root_.Prod.mk renaming injEq→a0C
open _root_.Nat renaming add_assoc→a0D,le_trans→a0I,lt_or_ge→a0O,le_refl→a0X
open Go.Utf8 renaming decode→a0K
open Go.Ending renaming returned→a0T
open Go.Result renaming andThen→a0U
open Go.Lib renaming decodeL→a0Z
open _root_.Prod renaming ext→a02
open Go.Maps renaming has_true_of_atKey→a03
open Go.IntKind renaming i64→a06
open Go.WideAt renaming sameKey_self→a07,sameKey_eq→a08
open Go.RowKit.Below renaming heap_setCell→a1c
section
open Go.RowKit
abbrev Bs:=List UInt8
abbrev S (l:Bs):a0b:= .string ⟨l.toArray⟩
theorem Az (l:Bs) (k:Nat) (h:k<(⟨l.toArray⟩:ByteArray).size):(⟨l.toArray⟩:ByteArray)[k]'h=l[k]'(by simpa [ByteArray.size] using h):=rfl
attribute [go_sem] Az
theorem zE (l:Bs):(⟨l.toArray⟩:ByteArray).toList=l:=by rw [Lib.toList_data]
theorem s7 (l:Bs) (a b:Nat):(⟨l.toArray⟩:ByteArray).extract a b=⟨((l.take b).drop a).toArray⟩:=by
 apply ByteArray.ext;rw [ByteArray.data_extract];simp [List.extract_eq_take_drop,List.drop_take]
theorem vQ (a b:Bs):(⟨a.toArray⟩:ByteArray)++(⟨b.toArray⟩:ByteArray)=⟨(a++b).toArray⟩:=by
 apply ByteArray.ext;rw [ByteArray.data_append];simp
attribute [go_sem] zE s7 vQ
theorem mA (c:UInt8):(c.toNat:Int)<256:=by have:=c.toNat_lt;omega
theorem wi (c:UInt8):0<=(c.toNat:Int):=by omega
def letterB (c:UInt8):Bool:=decide (97<=c.toNat)&&decide (c.toNat<=122)
def digitB (c:UInt8):Bool:=decide (48<=c.toNat)&&decide (c.toNat<=57)
def eE (c:UInt8):Bool:=decide (32<c.toNat)&&decide (c.toNat<127)
def fC (c:UInt8):Bool:=decide (32<=c.toNat)&&decide (c.toNat<127)
def fixedN:Nat->Nat->Bs
 |0,_=>[]
 |n+1,v=>fixedN n (v / 10)++[a0l (48+v%10)]
theorem dQ (n v:Nat):(fixedN n v).length=n:=by
 induction n generalizing v with
 |zero=>rfl
 |succ n ih=>simp [fixedN,ih]
attribute [go_sem] dQ
structure Ch where
 left:Nat
 low:Nat
 high:Nat
def ch0:Ch:=⟨0,0,0⟩
def chNext (x:Ch) (c:UInt8):Option Ch:=
 let n:=c.toNat
 if 0<x.left then (if n<x.low∨x.high<n then none else some ⟨x.left - 1,128,191⟩)
 else if 32<=n/\n<128 then some ⟨0,128,191⟩
 else if 194<=n/\n<224 then some ⟨1,128,191⟩
 else if 224<=n/\n<240 then some ⟨2,if n=224 then 160 else 128,if n=237 then 159 else 191⟩
 else if 240<=n/\n<245 then some ⟨3,if n=240 then 144 else 128,if n=244 then 143 else 191⟩
 else none
def chRun:Ch->Bs->Option Ch
 |x,[]=>some x
 |x,c::l=>match chNext x c with
  |some y=>chRun y l
  |none=>none
def aP (l:Bs):Bool:=match chRun ch0 l with
 |some x=>decide (x.left=0)
 |none=>false
structure ci where
 code:UInt8
 text:Bs
 deriving DecidableEq
structure af where
 tag:Bs
 ind:Bs
 data:Bs
 subs:List ci
 deriving DecidableEq
structure aB where
 kind:UInt8
 level:UInt8
 fields:List af
 deriving DecidableEq
def bp (s:Bs):Bool:=decide (s.length=3)&&s.all digitB&& !decide (s=[48,48,48])
def fa (t:Bs):Bool:=decide (t.take 2=[48,48])
def gX (s:Bs):Bool:=decide (s.length=2)&&s.all fC
def db (s:ci):Bool:=aP s.text&&eE s.code
def wrongF (f:af):Int:=
 if !bp f.tag then 13
 else if fa f.tag then (if aP f.data&&decide (f.ind=[])&&f.subs.isEmpty then 0 else 14)
 else if decide (f.data=[])&&gX f.ind&& !f.subs.isEmpty&&f.subs.all db then 0 else 14
def aQ (s:ci):Bs:=31::s.code::s.text
def fieldBytes (f:af):Bs:=f.data++f.ind++f.subs.flatMap aQ++[30]
def aI:List af->Int
 |[]=>0
 |f::l=>if wrongF f=0 then aI l else wrongF f
def bJ (l:List af):Bool:=l.any λf=>decide (9999<(fieldBytes f).length)
def sizeOf (l:List af):Nat:=l.foldl (λn f=>n+12+(fieldBytes f).length) 26
def wrongR (r:aB):Int:=
 if !letterB r.kind|| !letterB r.level then 12
 else if aI r.fields≠0 then aI r.fields
 else if bJ r.fields||decide (999<r.fields.length)||decide (99999<sizeOf r.fields) then 2
 else 0
def dE:Nat->List af->Bs
 |_,[]=>[]
 |p,f::l=>f.tag++fixedN 4 (fieldBytes f).length++fixedN 5 p++dE (p+(fieldBytes f).length) l
def cL (l:List af):Bs:=l.flatMap fieldBytes
def iL (r:aB) (b base:Nat):Bs:=fixedN 5 b++[110,r.kind,r.level,32,97,50,50]++fixedN 5 base++[32,32,32,52,53,48,48]
def v8 (r:aB):Bs:=
 iL r (25+(dE 0 r.fields).length+(cL r.fields).length+1) (25+(dE 0 r.fields).length)++dE 0 r.fields++[30]++cL r.fields++[29]
def co (r:aB):Bs×Int:=if wrongR r=0 then (v8 r,0) else ([],wrongR r)
def AH (l:Bs) (a b:Nat):Bs:=(l.take b).drop a
theorem ap {a b:Bool} (h:a=b):a0T (.bool a)= .returned (.bool b):=by rw [h]
theorem aG {a b:Int} (h:a=b):a0T (.int .i64 a)= .returned (.int .i64 b):=by rw [h]
theorem uo (l:Bs) (k:Nat) (h:k<l.length):l.take (k+1)=l.take k++[l[k]]:=by
 rw [a0n h]
theorem tL {a b:Bs} (h:a=b):a0T (S a)= .returned (S b):=by rw [h]
theorem eL (b:List af) (k:Nat) (c:k<b.length) (h:aI (b.take k)=0):aI b=if wrongF b[k]=0 then aI (b.drop (k+1)) else wrongF b[k]:=by
 induction b generalizing k with
 |nil=>simp at c
 |cons f l ih=>
  cases k with
  |zero=>simp [aI]
  |succ k=>
   simp only [a09,aI] at h;by_cases hf:wrongF f=0
   · rw [if_pos hf] at h;simp only [aI,if_pos hf,a05,List.drop_succ_cons];exact ih k (by simpa using c) h
   · rw [if_neg hf] at h;exact absurd h hf
theorem fP (b:List af) (k:Nat) (d:k<b.length) (h:aI (b.take k)=0) (c:wrongF b[k]=0):aI (b.take (k+1))=0:=by
 have:=eL (b.take (k+1)) k (by simp;omega) (by rw [List.take_take];simpa [Nat.min_eq_left] using h);simp only [List.getElem_take,c,if_true] at this;rw [this];simp [aI]
theorem pN (b:List af) (k:Nat) (c:k<b.length):sizeOf (b.take (k+1))=sizeOf (b.take k)+12+(fieldBytes b[k]).length:=by
 unfold sizeOf;rw [a0n c,List.foldl_append];rfl
theorem rL (b:List af) (k:Nat) (c:k<b.length) (h:9999<(fieldBytes b[k]).length):bJ b=true:=by
 unfold bJ;rw [a0y];exact ⟨_,a0Q c,by simpa using h⟩
theorem nG (b:List af) (k:Nat) (c:k<b.length) (h:bJ (b.take k)=false) (d:¬9999<(fieldBytes b[k]).length):bJ (b.take (k+1))=false:=by
 unfold bJ at *;rw [a0n c,List.any_append,h];simp;omega
open Go.RowKit
structure aq (b:Nat) (w w':a0a):Prop where
 os:w'.os=w.os
 tape:w'.tape=w.tape
 output:w'.output=w.output
 size:w'.heap.size=w.heap.size
 block:∀k,k≠b->w'.heap[k]? =w.heap[k]?
theorem aq.refl (b:Nat) (w:a0a):aq b w w:=⟨rfl,rfl,rfl,rfl,λ_ _=>rfl⟩
theorem aq.trans {b:Nat} {x y z:a0a} (h:aq b x y) (k:aq b y z):aq b x z:=
 ⟨k.os.trans h.os,k.tape.trans h.tape,k.output.trans h.output,k.size.trans h.size,λi c=>(k.block i c).trans (h.block i c)⟩
theorem aq.drew {b:Nat} {a w:a0a} (h:aq b a w):aq b a w.drew:=⟨h.os,h.tape,h.output,h.size,h.block⟩
theorem aq.setCell {b:Nat} {a w:a0a} (h:aq b a w) (o:Nat) (u:a0b):aq b a (w.setCell ⟨b,o,none⟩ u):=
 h.trans ⟨rfl,rfl,rfl,by simp [World.setCell],λk c=>a1c _ _ _ _ c⟩
theorem aq.below {b B:Nat} {w w':a0a} (h:aq b w w') (c:B<=b):Below B w w':=
 ⟨h.os,h.tape,h.output,by rw [h.size];exact a0X _,λk d=>h.block k (by omega)⟩
theorem aq.cell {b:Nat} {w w':a0a} (h:aq b w w') {p:Addr} (c:p.block≠b):w'.cell? p=w.cell? p:=a0x (w:=w) (h.block p.block c)
theorem aq.frozen {b:Nat} {w w':a0a} (h:aq b w w') {p:Addr} (c:p.block≠b):w'.frozen? p=w.frozen? p:=World.frozen?_of_block (w:=w) (h.block p.block c)
theorem btr {B b:Nat} {x y z:a0a} (h:Below B x y) (k:Below b y z) (c:B<=b):Below B x z:=h.trans (k.mono c)
theorem aE {W w1:a0a} (c:Below W.heap.size W w1):(∀b o,b<W.heap.size->w1.cell? ⟨b,o,none⟩=W.cell? ⟨b,o,none⟩)/\(∀b o,b<W.heap.size->w1.frozen? ⟨b,o,none⟩=W.frozen? ⟨b,o,none⟩):=
 ⟨λb o h=>c.cell (p:=⟨b,o,none⟩) h,λb o h=>c.frozen (p:=⟨b,o,none⟩) h⟩
theorem bq {w:a0a} {p:Addr} {v:a0b} (h:w.cell? p=some v):p.block<w.heap.size:=by
 unfold World.cell? at h;by_cases hp:p.block<w.heap.size
 · exact hp
 · rw [a0e (by omega)] at h;cases h
theorem fd {w w':a0a} (b:Below w.heap.size w w'):∀p x,w.cell? p=some x->w'.cell? p=some x:=λp x h=>by rw [b.cell (bq h)];exact h
structure rD (w:a0a) (b:Nat) (x:Ch):Prop where
 c0:w.cell? ⟨b,0,none⟩=some (.int .i64 x.left)
 c1:w.cell? ⟨b,1,none⟩=some (.int .i64 x.low)
 c2:w.cell? ⟨b,2,none⟩=some (.int .i64 x.high)
 f0:w.frozen? ⟨b,0,none⟩=false
 f1:w.frozen? ⟨b,1,none⟩=false
 f2:w.frozen? ⟨b,2,none⟩=false
def jw (x:Ch):Prop:=x.left<=3/\x.low<=255/\x.high<=255
theorem re {x y:Ch} {c:UInt8} (b:jw x) (h:chNext x c=some y):jw y:=by
 unfold jw at *;unfold chNext at h;dsimp only at h;split at h
 · split at h
   · cases h
   · cases h;exact ⟨by simp;omega,by simp,by simp⟩
 · split at h
   · cases h;simp
   · split at h
     · cases h;simp
     · split at h
       · cases h;refine ⟨by simp,?_,?_⟩<;>simp<;>split<;>omega
       · split at h
         · cases h;refine ⟨by simp,?_,?_⟩<;>simp<;>split<;>omega
         · cases h
def lN (x:Ch) (c:UInt8) (b:Nat) (w:a0a) (e:Ending) (w':a0a):Prop:=
 aq b w w'/\((Hid (chNext x c=none)/\e= .returned (.bool false))∨∃y,Hid (chNext x c=some y)/\e= .returned (.bool true)/\rD w' b y)
theorem xd {x:Ch} {c:UInt8} {b:Nat} {w w':a0a} {e:Ending} (f:aq b w w') (d:e= .returned (.bool false)) (h:chNext x c=none):lN x c b w e w':=⟨f, .inl ⟨h,d⟩⟩
theorem ec {x:Ch} {c:UInt8} {b:Nat} {w w':a0a} {e:Ending} {y:Ch} (h:chNext x c=some y) (g:aq b w w') (f:e= .returned (.bool true)) (d:rD w' b y):lN x c b w e w':=⟨g, .inr ⟨y,h,f,d⟩⟩
theorem zA {x:Ch} {c:UInt8} (h:0<x.left) (b:c.toNat<x.low∨x.high<c.toNat):chNext x c=none:=by unfold chNext;simp only [if_pos h,if_pos b]
theorem Ay {x:Ch} {c:UInt8} (h:0<x.left) (b:¬(c.toNat<x.low∨x.high<c.toNat)):chNext x c=some ⟨x.left - 1,128,191⟩:=by unfold chNext;simp only [if_pos h,if_neg b]
theorem qZ {x:Ch} {c:UInt8} (h:¬0<x.left) (b:32<=c.toNat/\c.toNat<128):chNext x c=some ⟨0,128,191⟩:=by unfold chNext;simp only [if_neg h,if_pos b]
theorem xU {x:Ch} {c:UInt8} (h:¬0<x.left) (b:194<=c.toNat/\c.toNat<224):chNext x c=some ⟨1,128,191⟩:=by
 unfold chNext;simp only [if_neg h,if_neg (show ¬(32<=c.toNat/\c.toNat<128) by omega),if_pos b]
theorem lu {x:Ch} {c:UInt8} (h:¬0<x.left) (b:224<=c.toNat/\c.toNat<240):chNext x c=some ⟨2,if c.toNat=224 then 160 else 128,if c.toNat=237 then 159 else 191⟩:=by
 unfold chNext;simp only [if_neg h,if_neg (show ¬(32<=c.toNat/\c.toNat<128) by omega),if_neg (show ¬(194<=c.toNat/\c.toNat<224) by omega),if_pos b]
theorem oT {x:Ch} {c:UInt8} (h:¬0<x.left) (b:240<=c.toNat/\c.toNat<245):chNext x c=some ⟨3,if c.toNat=240 then 144 else 128,if c.toNat=244 then 143 else 191⟩:=by
 unfold chNext;simp only [if_neg h,if_neg (show ¬(32<=c.toNat/\c.toNat<128) by omega),if_neg (show ¬(194<=c.toNat/\c.toNat<224) by omega),if_neg (show ¬(224<=c.toNat/\c.toNat<240) by omega),if_pos b]
theorem ke {x:Ch} {c:UInt8} (h:¬0<x.left) (b:c.toNat<32∨(128<=c.toNat/\c.toNat<194)∨245<=c.toNat):chNext x c=none:=by
 unfold chNext;simp only [if_neg h,if_neg (show ¬(32<=c.toNat/\c.toNat<128) by omega),if_neg (show ¬(194<=c.toNat/\c.toNat<224) by omega),if_neg (show ¬(224<=c.toNat/\c.toNat<240) by omega),if_neg (show ¬(240<=c.toNat/\c.toNat<245) by omega)]
theorem zU {x:Ch} {c:UInt8} (h:¬0<x.left) (b:c.toNat=224):chNext x c=some ⟨2,160,191⟩:=by
 rw [lu h (by omega),if_pos (by omega),if_neg (by omega)]
theorem zT {x:Ch} {c:UInt8} (h:¬0<x.left) (b:c.toNat=237):chNext x c=some ⟨2,128,159⟩:=by
 rw [lu h (by omega),if_neg (by omega),if_pos (by omega)]
theorem zS {x:Ch} {c:UInt8} (h:¬0<x.left) (b:224<c.toNat/\c.toNat<240/\c.toNat≠237):chNext x c=some ⟨2,128,191⟩:=by
 rw [lu h (by omega),if_neg (by omega),if_neg (by omega)]
theorem zR {x:Ch} {c:UInt8} (h:¬0<x.left) (b:c.toNat=240):chNext x c=some ⟨3,144,191⟩:=by
 rw [oT h (by omega),if_pos (by omega),if_neg (by omega)]
theorem zQ {x:Ch} {c:UInt8} (h:¬0<x.left) (b:c.toNat=244):chNext x c=some ⟨3,128,143⟩:=by
 rw [oT h (by omega),if_neg (by omega),if_pos (by omega)]
theorem zP {x:Ch} {c:UInt8} (h:¬0<x.left) (b:240<c.toNat/\c.toNat<244):chNext x c=some ⟨3,128,191⟩:=by
 rw [oT h (by omega),if_neg (by omega),if_neg (by omega)]
theorem sV (x:Ch) (l:Bs) (c:UInt8) (y:Ch) (h:chRun x l=some y):chRun x (l++[c])=chNext y c:=by
 induction l generalizing x with
 |nil=>simp only [chRun,a0f] at h;subst h;simp only [List.nil_append,chRun];cases chNext x c<;>rfl
 |cons d l ih=>
  simp only [chRun,a0S] at h ⊢;cases hd:chNext x d with
  |none=>rw [hd] at h;cases h
  |some z=>rw [hd] at h;exact ih z h
theorem sW (l:Bs) (k:Nat) (y:Ch) (c:k<l.length):∀x,chRun x (l.take k)=some y->chNext y l[k]=none->chRun x l=none:=by
 induction l generalizing k with
 |nil=>simp at c
 |cons d l ih=>
  intro x h b;cases k with
  |zero=>simp only [List.take_zero,chRun,a0f] at h;subst h;simp only [a04] at b;simp only [chRun,b]
  |succ k=>
   simp only [a09,chRun] at h ⊢;cases hd:chNext x d with
   |none=>rfl
   |some z=>rw [hd] at h;exact ih k (by simpa using c) z h (by simpa using b)
theorem xX (w:a0a) (T:a0t):rD (w.alloc (Obj.cells #[Value.int a06 0,Value.int a06 0,Value.int a06 0] T)) w.heap.size ch0:=by
 constructor<;>go_simp<;>simp [ch0]
theorem xW:jw ch0:=⟨by simp [ch0],by simp [ch0],by simp [ch0]⟩
theorem sI {l:Bs} {y:Ch} (h:chRun ch0 l=some y):aP l=decide (y.left=0):=by simp [aP,h]
theorem qE {l:Bs} (h:chRun ch0 l=none):aP l=false:=by simp [aP,h]
def iZ (lo b:Nat) (w w':a0a):Prop:=∀k,lo<=k->k<b->w'.heap[k]? =w.heap[k]?
theorem bd {B b:Nat} {w w':a0a} (h:Below B w w') (d:b<=B):iZ 0 b w w':=λk _ c=>h.block k (by omega)
theorem iZ.trans {lo b:Nat} {x y z:a0a} (h:iZ lo b x y) (k:iZ lo b y z):iZ lo b x z:=λi c d=>(k i c d).trans (h i c d)
theorem iZ.mono {lo c e d:Nat} {w w':a0a} (h:iZ lo c w w') (f:lo<=e) (g:d<=c):iZ e d w w':=λk a b=>h k (by omega) (by omega)
theorem aq.kept {b lo c:Nat} {w w':a0a} (h:aq b w w') (f:b<lo∨c<=b):iZ lo c w w':=λk d e=>h.block k (by omega)
def aH (lo f:Nat) (w:a0a) (v:a0b) (n:Nat) (c:List a0b):Prop:=
 ∃a e,v= .slice a n e/\(c≠[]->∃b d,a=some ⟨b,d,none⟩/\lo<=b/\b<f/\∀j x,c[j]? =some x->w.cell? ⟨b,d+j,none⟩=some x)
theorem aH.kept {lo c:Nat} {w w':a0a} {v:a0b} {n:Nat} {d:List a0b} (h:aH lo c w v n d) (k:iZ lo c w w'):aH lo c w' v n d:=by
 obtain ⟨a,g,p,h⟩:=h;refine ⟨a,g,p,λm=>?_⟩;obtain ⟨b,r,l,e,f,i⟩:=h m;exact ⟨b,r,l,e,f,λj x q=>by rw [a0x (w:=w) (k b e f)];exact i j x q⟩
theorem aH.mono {lo d f e:Nat} {w:a0a} {v:a0b} {n:Nat} {c:List a0b} (h:aH lo d w v n c) (p:f<=lo) (q:d<=e):aH f e w v n c:=by
 obtain ⟨a,g,l,h⟩:=h;refine ⟨a,g,l,λk=>?_⟩;obtain ⟨b,m,j,r,s,i⟩:=h k;exact ⟨b,m,j,by omega,by omega,i⟩
def subCells (s:ci):List a0b:=[.int .u8 s.code.toNat,S s.text]
def az (lo c:Nat) (w:a0a) (v:a0b) (b:List ci):Prop:=aH lo c w v b.length (b.flatMap subCells)
theorem az.kept {lo b:Nat} {w w':a0a} {v:a0b} {c:List ci} (h:az lo b w v c) (k:iZ lo b w w'):az lo b w' v c:=aH.kept h k
theorem az.mono {lo b d c:Nat} {w:a0a} {v:a0b} {e:List ci} (h:az lo b w v e) (f:d<=lo) (g:b<=c):az d c w v e:=aH.mono h f g
def fieldV (f:af) (d:a0b):a0b:= .agg #[S f.tag,S f.ind,S f.data,d]
def fieldCells (p:af×a0b):List a0b:=[S p.1.tag,S p.1.ind,S p.1.data,p.2]
def ai (lo c:Nat) (w:a0a) (v:a0b) (b:List af):Prop:=
 ∃ps:List (af×a0b),ps.map (·.1)=b/\(∀p∈ps,az lo c w p.2 p.1.subs)/\aH lo c w v b.length (ps.flatMap fieldCells)
theorem ai.kept {lo b:Nat} {w w':a0a} {v:a0b} {c:List af} (h:ai lo b w v c) (k:iZ lo b w w'):ai lo b w' v c:=by
 obtain ⟨ps,d,e,f⟩:=h;exact ⟨ps,d,λp g=>(e p g).kept k,f.kept k⟩
theorem ai.mono {lo e g f:Nat} {w:a0a} {v:a0b} {b:List af} (h:ai lo e w v b) (c:g<=lo) (d:e<=f):ai g f w v b:=by
 obtain ⟨ps,i,j,k⟩:=h;exact ⟨ps,i,λp l=>(j p l).mono c d,k.mono c d⟩
def fq (r:aB) (x:a0b):a0b:= .agg #[.int .u8 r.kind.toNat, .int .u8 r.level.toNat,x]
def d7 (lo b:Nat) (w:a0a) (v:a0b) (r:aB):Prop:=∃x,v=fq r x/\ai lo b w x r.fields
theorem d7.kept {lo b:Nat} {w w':a0a} {v:a0b} {r:aB} (h:d7 lo b w v r) (k:iZ lo b w w'):d7 lo b w' v r:=by
 obtain ⟨x,c,d⟩:=h;exact ⟨x,c,d.kept k⟩
theorem d7.mono {lo b d c:Nat} {w:a0a} {v:a0b} {r:aB} (h:d7 lo b w v r) (e:d<=lo) (f:b<=c):d7 d c w v r:=by
 obtain ⟨x,g,i⟩:=h;exact ⟨x,g,i.mono e f⟩
theorem de {α:Type} (f:α->List a0b) (k:Nat) (b:∀a,(f a).length=k) (l:List α) (i:Nat) (c:i<l.length) (j:Nat) (d:j<k):
 (l.flatMap f)[i * k+j]? =(f l[i])[j]? :=by
 induction l generalizing i with
 |nil=>simp at c
 |cons a l ih=>
  rw [a0M];cases i with
  |zero=>rw [List.getElem?_append_left (by rw [b];omega)];simp
  |succ i=> rw [List.getElem?_append_right (by rw [b,Nat.succ_mul];omega),b];rw [show (i+1) * k+j - k=i * k+j from by rw [Nat.succ_mul];omega];rw [ih i (by simpa using c)];simp
theorem az.sub {lo j:Nat} {w:a0a} {v:a0b} {c:List ci} (h:az lo j w v c) (i:Nat) (f:i<c.length):
 ∃b d e,v= .slice (some ⟨b,d,none⟩) c.length e/\lo<=b/\b<j/\w.cell? ⟨b,d+i * 2,none⟩=some (.int .u8 c[i].code.toNat)/\w.cell? ⟨b,d+i * 2+1,none⟩=some (S c[i].text):=by
 obtain ⟨a,e,t,h⟩:=h;have r:c.flatMap subCells≠[]:=by
  cases c with
  |nil=>simp at f
  |cons s l=>simp [subCells]
 obtain ⟨b,d,q,n,p,g⟩:=h r;subst q;have k:=de subCells 2 (λ_=>rfl) c i f 0 (by omega);have m:=de subCells 2 (λ_=>rfl) c i f 1 (by omega);exact ⟨b,d,e,t,n,p,g _ _ k,by rw [a0D];exact g _ _ m⟩
theorem aR (w:a0a) (o:Obj) (b i:Nat) (h:b<w.heap.size):(w.alloc o).cell? ⟨b,i,none⟩=w.cell? ⟨b,i,none⟩:=
 a0x (w:=w) (Below.heap_alloc w o b h)
theorem bI (f:af) (k:Nat):(f.data++f.ind++(f.subs.take k).flatMap aQ).length+1<=(fieldBytes f).length:=by
 have:((f.subs.take k).flatMap aQ).length<=(f.subs.flatMap aQ).length:=by
  conv=>rhs;rw [<- List.take_append_drop k f.subs]
  rw [a1a,a0q];omega
 simp only [fieldBytes,a0q,List.length_singleton] at *;omega
theorem js {α:Type} (g:α->Bs) (l:List α) (k:Nat) (h:k<l.length):(l.take (k+1)).flatMap g=(l.take k).flatMap g++g l[k]:=by
 rw [a0n h,a1a];simp
theorem ai.field {lo k:Nat} {w:a0a} {v:a0b} {c:List af} (h:ai lo k w v c) (i:Nat) (x:i<c.length):
 ∃b e j d,v= .slice (some ⟨b,e,none⟩) c.length j/\lo<=b/\b<k/\w.cell? ⟨b,e+i * 4,none⟩=some (S c[i].tag)/\w.cell? ⟨b,e+i * 4+1,none⟩=some (S c[i].ind)/\
  w.cell? ⟨b,e+i * 4+2,none⟩=some (S c[i].data)/\w.cell? ⟨b,e+i * 4+3,none⟩=some d/\az lo k w d c[i].subs:=by
 obtain ⟨ps,rfl,C,a,j,D,h⟩:=h;have f:i<ps.length:=by simpa using x
 have y:ps.flatMap fieldCells≠[]:=by
  cases ps with
  |nil=>simp at f
  |cons s l=>simp [fieldCells]
 obtain ⟨b,e,u,r,t,g⟩:=h y;subst u;have m:=de fieldCells 4 (λ_=>rfl) ps i f 0 (by omega);have n:=de fieldCells 4 (λ_=>rfl) ps i f 1 (by omega);have p:=de fieldCells 4 (λ_=>rfl) ps i f 2 (by omega);have q:=de fieldCells 4 (λ_=>rfl) ps i f 3 (by omega);have A:=C _ (a0Q f);simp only [List.getElem_map];exact ⟨b,e,j,ps[i].2,D,r,t,g _ _ m,by rw [a0D];exact g _ _ n,by rw [a0D];exact g _ _ p,by rw [a0D];exact g _ _ q,A⟩
theorem ai.shape {lo d:Nat} {w:a0a} {v:a0b} {c:List af} (h:ai lo d w v c):∃a b,v= .slice a c.length b:=by
 obtain ⟨_,_,_,a,b,e,_⟩:=h;exact ⟨a,b,e⟩
def bL (b:List af):Prop:=b.length<=1000000/\∀f∈b,(fieldBytes f).length<=1000000
theorem cF (f:af):f.subs.length<=(fieldBytes f).length:=by
 have:∀l:List ci,l.length<=(l.flatMap aQ).length:=by
  intro l;induction l with
  |nil=>simp
  |cons s l ih=>rw [a0M,a0q];simp only [aQ,a0P];omega
 have:=this f.subs;simp only [fieldBytes,a0q];omega
theorem fO {l:List af} (h:aI l=0):∀f∈l,wrongF f=0:=by
 induction l with
 |nil=>simp
 |cons g l ih=>
  simp only [aI] at h;intro f b;by_cases hg:wrongF g=0
  · rw [if_pos hg] at h;rcases List.mem_cons.1 b with rfl|b
    · exact hg
    · exact ih h f b
  · rw [if_neg hg] at h;exact absurd h hg
theorem rE {f:af} (h:wrongF f=0):bp f.tag=true:=by
 cases ht:bp f.tag with
 |true=>rfl
 |false=>simp [wrongF,ht] at h
theorem oO (p:Nat) (l:List af) (f:af):dE p (l++[f])=dE p l++(f.tag++fixedN 4 (fieldBytes f).length++fixedN 5 (p+(cL l).length)):=by
 induction l generalizing p with
 |nil=>simp [dE,cL]
 |cons g l ih=> simp only [a0S,dE,ih,cL,a0M,a0q];simp [a0D]
theorem qT (l:List af) (f:af):cL (l++[f])=cL l++fieldBytes f:=by simp [cL]
theorem jg (l:List af):sizeOf l=26+12 * l.length+(cL l).length:=by
 have:∀(l:List af) n,l.foldl (λn f=>n+12+(fieldBytes f).length) n=n+12 * l.length+(cL l).length:=by
  intro l;induction l with
  |nil=>simp [cL]
  |cons g l ih=>intro n;rw [List.foldl_cons,ih];simp [cL];omega
 exact this l 26
theorem gK {l:Bs} (h:bp l=true):l.length=3:=by simp [bp] at h;exact h.1.1
structure AA (r:aB):Prop where
 kind:letterB r.kind=true
 level:letterB r.level=true
 fields:∀f∈r.fields,wrongF f=0
 long:∀f∈r.fields,(fieldBytes f).length<=9999
 many:r.fields.length<=999
 size:26+12 * r.fields.length+(cL r.fields).length<=99999
theorem wJ {r:aB} (h:wrongR r=0):AA r:=by
 unfold wrongR at h;split at h
 · simp at h
 · rename_i b;split at h
   · rename_i d;exact absurd h d
   · rename_i d;split at h
     · simp at h
     · rename_i e;simp only [a0H,a0v,not_or,Bool.not_eq_false,decide_eq_true_eq,Bool.not_eq_true] at b e;have g:aI r.fields=0:=by omega
       refine ⟨b.1,b.2,fO g,?_,by omega,by rw [<- jg];omega⟩;intro f i;have c:=e.1.1;unfold bJ at c;rw [List.any_eq_false] at c;simpa using c f i
end
section
open Go.RowKit
def fh (s:ByteArray):Nat->List Nat->Prop
 |pos,[]=>pos=s.size
 |pos,c::rs=>pos<s.size/\(a0K s pos).1=c/\pos<pos+(a0K s pos).2/\pos+(a0K s pos).2<=s.size/\fh s (pos+(a0K s pos).2) rs
def runesF:Nat->Bs->List Nat
 |0,_=>[]
 |f+1,l=>if l=[] then [] else (a0Z l).1::runesF f (l.drop (a0Z l).2)
def runesR (l:Bs):List Nat:=runesF l.length l
theorem dK (l:Bs) (b:Nat):a0K ⟨l.toArray⟩ b=a0Z (l.drop b):=by
 rw [<- Lib.decodeL_drop]
theorem nX (l:Bs):∀(f b:Nat),b<=l.length->l.length - b<=f->fh ⟨l.toArray⟩ b (runesF f (l.drop b)):=by
 intro f;induction f with
 |zero=>intro b d g;show b=l.length;omega
 |succ f ih=>
  intro b d g;unfold runesF;by_cases hp:b=l.length
  · rw [if_pos (by rw [hp];simp)];exact hp
  · have c:l.drop b≠[]:=by intro e;have:=congrArg List.length e;simp at this;omega
    rw [if_neg c];have i:=Lib.decodeL_width (l.drop b);have h:=Lib.decodeL_le (l.drop b) c;rw [List.length_drop] at h;refine ⟨by show b<l.length;omega,by rw [dK],by rw [dK];omega,by rw [dK];show _<=l.length;omega,?_⟩;rw [dK,List.drop_drop];exact ih _ (by omega) (by omega)
theorem fM (l:Bs):fh ⟨l.toArray⟩ 0 (runesR l):=by
 have:=nX l l.length 0 (Nat.zero_le _) (by omega);simpa [runesR] using this
theorem rY (f:Nat) (l:Bs):(runesF f l).length<=l.length:=by
 induction f generalizing l with
 |zero=>exact Nat.zero_le _
 |succ f ih=>
  unfold runesF;split
  · simp
  · rename_i b;have d:=Lib.decodeL_width l;have:=ih (l.drop (a0Z l).2);have c:0<l.length:=List.length_pos_iff.2 b;simp only [a0P,List.length_drop] at *;omega
theorem kI (l:Bs):(runesR l).length<=l.length:=rY _ _
theorem uI (f:Nat) (l:Bs):∀c∈runesF f l,c<=1114111:=by
 induction f generalizing l with
 |zero=>intro c b;cases b
 |succ f ih=>
  intro c b;unfold runesF at b;split at b
  · cases b
  · rcases List.mem_cons.1 b with rfl|b
    · exact Lib.decodeL_rune l
    · exact ih _ c b
theorem uH (l:Bs):∀c∈runesR l,c<=1114111:=uI _ _
def o0 (x:ByteArray):Bs:=x.data.toList
def enc (c:Nat):Bs:=o0 (Utf8.encode (c:Int))
def rowsK:List (Bs×List Nat):=[
 ([97],[224,225,226,227,228,229,257,259,261,192,193,194,195,196,197,256,258,260]),
 ([99],[231,263,265,267,269,199,262,264,266,268]),
 ([100],[271,273,240,270,272,208]),
 ([101],[232,233,234,235,275,277,279,281,283,200,201,202,203,274,276,278,280,282]),
 ([103],[285,287,289,291,284,286,288,290]),
 ([104],[293,295,292,294]),
 ([105],[236,237,238,239,297,299,301,303,305,204,205,206,207,296,298,300,302,304]),
 ([106],[309,308]),
 ([107],[311,310]),
 ([108],[314,316,318,322,313,315,317,321]),
 ([110],[241,324,326,328,209,323,325,327]),
 ([111],[242,243,244,245,246,248,333,335,337,417,210,211,212,213,214,216,332,334,336,416]),
 ([114],[341,343,345,340,342,344]),
 ([115],[347,349,351,353,346,348,350,352]),
 ([116],[355,357,359,354,356,358]),
 ([117],[249,250,251,252,361,363,365,367,369,371,432,217,218,219,220,360,362,364,366,368,370,431]),
 ([119],[373,372]),
 ([121],[253,255,375,221,376,374]),
 ([122],[378,380,382,377,379,381]),
 ([97,101],[230,198]),
 ([111,101],[339,338]),
 ([115,115],[223]),
 ([116,104],[254,222]),
 ([206,177],[940,902]),
 ([206,181],[941,904]),
 ([206,183],[942,905]),
 ([206,185],[943,970,912,906,938]),
 ([206,191],[972,908]),
 ([207,133],[973,971,944,910,939]),
 ([207,137],[974,911]),
 ([208,181],[1105,1025])]
def rowIn (c:Nat):List (Bs×List Nat)->Option Bs
 |[]=>none
 |(s,l)::t=>if l.contains c then some s else rowIn c t
def bx (c:Nat):Bs:=
 if (97<=c/\c<=122)∨(48<=c/\c<=57) then enc c
 else if 65<=c/\c<=90 then enc (c+32)
 else if c<128 then [32]
 else if (768<=c/\c<=879)∨(65056<=c/\c<=65071) then []
 else match rowIn c rowsK with
  |some s=>s
  |none=>if c=962 then enc 963
   else if (945<=c/\c<=969)∨(1072<=c/\c<=1103) then enc c
   else if (913<=c/\c<=937/\c≠930)∨(1040<=c/\c<=1071) then enc (c+32)
   else [32]
def be:List Nat->Bs->List Bs
 |[],w=>if w=[] then [] else [w]
 |c::l,w=>if bx c=[32] then (if w=[] then be l [] else w::be l []) else be l (w++bx c)
def ba (s:Bs):List Bs:=be (runesR s) []
def dq:List Bs->Bs
 |[]=>[]
 |[a]=>a
 |a::b::l=>a++[32]++dq (b::l)
def fF (w:Bs):Bool:=w.all digitB
def stripR:Bs->Bs
 |[]=>[]
 |[c]=>[c]
 |c::d::l=>if c=48 then stripR (d::l) else c::d::l
def eT (w:Bs):Bs:=if fF w then a0l (48+min (stripR w).length 99 / 10)::a0l (48+min (stripR w).length 99%10)::stripR w else w
def fL (s:Bs) (skip:Nat):Bs:=dq ((ba (s.drop skip)).map eT)
def xB (c:UInt8):Bool:=decide (c=88)||decide (c=120)
def isbnGo:Bs->Bs
 |[]=>[]
 |c::l=>if digitB c||xB c then c::isbnGo l else if c=32∨c=45 then isbnGo l else []
def valB (c:UInt8):Nat:=c.toNat - 48
def checkGo:Nat->Bs->Nat
 |_,[]=>0
 |k,c::l=>valB c * (1+2 * (k%2))+checkGo (k+1) l
def checkR (s:Bs):UInt8:=a0l (48+(10 - checkGo 0 (s.take 12)%10)%10)
def pB:Nat->Bs->Nat
 |_,[]=>0
 |k,c::l=>(10 - k) * (if xB c then 10 else valB c)+pB (k+1) l
def yl (s:Bs):Bool:=decide (pB 0 s%11=0)&&(s.take 9).all digitB
def isbnR (s:Bs):Option Bs:=
 let o:=isbnGo s
 if o.length=10/\yl o then some ([57,55,56]++o.take 9++[checkR ([57,55,56]++o.take 9)])
 else if o.length=13/\fF o/\checkR o=o.getD 12 0 then some o
 else none
def firstF (b:List af) (c:Bs):Option af:=b.find? λf=>f.tag==c
def textS (c:List ci) (b:Bs):Bs:=dq ((c.filter λs=>b.contains s.code).map ci.text)
def textF (f:Option af) (b:Bs):Bs:=match f with
 |some f=>textS f.subs b
 |none=>[]
def bX:Bs:=[50,52,53]
def dI:Bs:=[49,48,48]
def dW:Bs:=[48,50,48]
def kC:Bs:=[48,48,56]
def kB:Bs:=[50,54,48]
def wA (f:Option af):Nat:=match f with
 |some f=>match f.ind with
  |_::c::_=>if digitB c then c.toNat - 48 else 0
  |_=>0
 |none=>0
def aO (b:List af):Bs:=fL (textF (firstF b bX) [97,98]) (wA (firstF b bX))
def oX (f:af):List Bs:=if f.tag=dW then f.subs.filterMap λs=>if s.code=97 then isbnR s.text else none else []
def booksR (b:List af):List Bs:=b.flatMap oX
def br (b:List af):List Bs:=ba (textF (firstF b dI) [97])
def isbnK (n:Bs):Bs:=[105,115,98,110,32]++n
def nH (b:List af):Bs:=[116,105,116,108,101,32]++aO b++[32,47,32]++(br b).headD []
def rawR (b:List af):List Bs:=(booksR b).map isbnK++(if aO b=[] then [] else [nH b])
def aM (s:Bs):Int:=if s.length=4/\s.all digitB then s.foldl (λn c=>10 * n+((c.toNat:Int) - 48)) 0 else -1
def bi:Bs->Int
 |[]=> -1
 |c::l=>if 0<=aM ((c::l).take 4) then aM ((c::l).take 4) else bi l
def ix (b:List af):Int:=match firstF b kC with
 |some f=>if 11<=f.data.length then aM (AH f.data 7 11) else -1
 |none=> -1
def bC (b:List af):Int:=if 0<=ix b then ix b else bi (textF (firstF b kB) [99])
def bookPts (m n:List Bs):Int:=if m=[]∨n=[] then 0 else if m.any n.contains then 50 else -30
def titlePts (s t:Bs):Int:=if s=[]∨t=[] then 0 else if s=t then 30 else -20
def authorPts (v w:List Bs):Int:=if v=[]∨w=[] then 0 else if v=w then 15 else if v.headD []=w.headD [] then 8 else -15
def yearPts (x y:Int):Int:=if x<0∨y<0 then 0 else if x=y then 10 else if x - y=1∨y - x=1 then 0 else -10
def pointsR (a b:aB):Int:=
 bookPts (booksR a.fields) (booksR b.fields)+titlePts (aO a.fields) (aO b.fields)+authorPts (br a.fields) (br b.fields)+yearPts (bC a.fields) (bC b.fields)+(if a.kind=b.kind then 0 else -40)
def sq (a b:aB):Bool:=(rawR a.fields).any (rawR b.fields).contains&&decide (40<=pointsR a b)
def fv (l:List aB) (n i:Nat):List (Nat×Nat):=((a0i n).filter λk=>decide (i<k)&&sq (l.getD i ⟨0,0,[]⟩) (l.getD k ⟨0,0,[]⟩)).map λk=>(i,k)
def pairsR (l:List aB):List (Nat×Nat):=(a0i l.length).flatMap (fv l l.length)
end
section
open Go.RowKit Go.Maps Go.WideShapes
open Go.ChangeMaps (putKey delKey notKey)
set_option linter.unusedSectionVars false
def heldR (v:a0b):Option (DataW a0b×List MemPlace):=some (.held v,[])
structure dZ (P:a0W) (kt:a0t) (K:Type) where
 kv:K->a0b
 kl:K->Lit
 ok:K->Prop
 keyed:Keyed P kt
 key:∀k,ok k->keyOf P kt (kv k)=some (kl k)
 inj:∀a b,kv a=kv b->a=b
section
variable {P:a0W} {kt:a0t} {K:Type} [DecidableEq K] (B:dZ P kt K)
theorem dZ.lit_inj {a b:K} (c:B.ok a) (d:B.ok b) (h:B.kl a=B.kl b):a=b:=
 B.inj _ _ (B.keyed.inj (B.key a c) (h ▸ B.key b d))
def dZ.entries (l:List (K×a0b)):List (Lit×DataW a0b):=l.map λp=>(B.kl p.1, .held p.2)
def ak (w:a0a) (b:Nat) (l:List (K×a0b)):Prop:=
 ∃c,w.ownsMap P kt heldR b l.length (.map c)/\c.Perm (B.entries l)/\∀p∈l,B.ok p.1
def lookL (l:List (K×a0b)) (k:K):Option a0b:=(l.find? λp=>decide (p.1=k)).map (·.2)
def cB (l:List (K×a0b)) (k:K):List (K×a0b):=l.filter λp=> !decide (p.1=k)
def putL (l:List (K×a0b)) (k:K) (v:a0b):List (K×a0b):=cB l k++[(k,v)]
variable {B}
theorem ak.lt {w:a0a} {b:Nat} {l:List (K×a0b)} (h:ak B w b l):b<w.heap.size:=by obtain ⟨d,c,_⟩:=h;exact c.lt
theorem ak.ok {w:a0a} {b:Nat} {l:List (K×a0b)} (h:ak B w b l):∀p∈l,B.ok p.1:=by obtain ⟨d,_,_,c⟩:=h;exact c
theorem ak.made (w:a0a):ak B (w.alloc (.map #[] 0)) w.heap.size []:=⟨[],World.ownsMap_made _ _ _ _, .refl _,λp b=>by cases b⟩
theorem ak.block {w w':a0a} {b:Nat} {l:List (K×a0b)} (h:ak B w b l) (j:w'.heap[b]? =w.heap[b]?):ak B w' b l:=by
 obtain ⟨d,⟨e,c,f,g⟩,i⟩:=h;exact ⟨d,⟨e,c,j.trans f,g⟩,i⟩
theorem ak.alloc {w:a0a} {b:Nat} {l:List (K×a0b)} (h:ak B w b l) (o:Obj):ak B (w.alloc o) b l:=h.block (Below.heap_alloc w o b h.lt)
theorem ak.drew {w:a0a} {b:Nat} {l:List (K×a0b)} (h:ak B w b l):ak B w.drew b l:=h.block rfl
theorem ak.setCell {w:a0a} {b:Nat} {l:List (K×a0b)} (h:ak B w b l) {a:Addr} (c:b≠a.block) (u:a0b):ak B (w.setCell a u) b l:=h.block (a1c _ _ _ _ c)
theorem ak.perm {w:a0a} {b:Nat} {l d:List (K×a0b)} (h:ak B w b l) (c:l.Perm d):ak B w b d:=by
 obtain ⟨e,f,g,i⟩:=h;exact ⟨e,c.length_eq ▸ f,g.trans (c.map _),λp j=>i p (c.mem_iff.2 j)⟩
theorem ak.nodup {w:a0a} {b:Nat} {l:List (K×a0b)} (h:ak B w b l):(l.map (·.1)).Nodup:=by
 obtain ⟨j,f,g,m⟩:=h;obtain ⟨k,e,i,_⟩:=f.entries B.keyed;cases e;have c:(B.entries l).Pairwise (λp q=>p.1≠q.1):=(g.pairwise_iff (λ{_ _} d=>Ne.symm d)).1 i;unfold dZ.entries at c;rw [a0p] at c;rw [List.Nodup,a0p];exact c.imp λ{a b} d e=>d (congrArg B.kl e)
theorem bu {l:List (K×a0b)} (b:(l.map (·.1)).Nodup) {k:K} {v:a0b}:lookL l k=some v↔(k,v)∈l:=by
 induction l with
 |nil=>simp [lookL]
 |cons p l ih=>
  rw [a0s,List.nodup_cons] at b;have ih:=ih b.2;unfold lookL at ih ⊢;rw [a0G];by_cases e:p.1=k
  · simp only [e,decide_true,Option.map_some,a0f,a0h];constructor
    · rintro rfl;exact .inl (by rw [<- e])
    · rintro (h|h)
      · rw [<- h]
      · exact absurd (List.mem_map.2 ⟨_,h,e.symm⟩) b.1
  · simp only [e,decide_false,a0h];rw [ih];constructor
    · exact .inr
    · rintro (h|h)
      · exact absurd (by rw [<- h]) e
      · exact h
theorem gH {l:List (K×a0b)} {k:K}:lookL l k=none↔∀v,(k,v)∉l:=by
 unfold lookL;rw [Option.map_eq_none_iff,a0A];constructor
 · intro h v b;exact h _ b (by simp)
 · intro h p c e;simp at e;exact h p.2 (by rw [<- e];exact c)
theorem ak.at_some {w:a0a} {b:Nat} {l:List (K×a0b)} {c:List (Lit×DataW a0b)} (d:w.ownsMap P kt heldR b l.length (.map c)) (f:c.Perm (B.entries l)) (i:(l.map (·.1)).Nodup) {k:K} (h:B.ok k) {v:a0b} (j:lookL l k=some v) (z:DataW a0b):
 (DataW.map c).atKey (B.kl k) z= .held v:=by
 obtain ⟨m,e,g,_⟩:=d.entries B.keyed;cases e;exact WideAt.atKey_mem z (B.keyed.key (B.key k h)) g (f.mem_iff.2 (List.mem_map.2 ⟨_,(bu i).1 j,rfl⟩))
theorem ak.at_none {b:List (Lit×DataW a0b)} {l:List (K×a0b)} (h:b.Perm (B.entries l)) (i:∀p∈l,B.ok p.1) {k:K} (j:B.ok k) (n:lookL l k=none) (z:DataW a0b):
 (DataW.map b).atKey (B.kl k) z=z:=by
 unfold DataW.atKey;have:b.find? (λp=>p.1.sameKey (B.kl k))=none:=by rw [a0A];intro p m e;obtain ⟨q,d,f⟩:=List.mem_map.1 (h.mem_iff.1 m);have c:=a08 e;rw [<- f] at c;have g:=B.lit_inj (i q d) j c;exact gH.1 n q.2 (by rw [<- g];exact d)
 simp [this]
theorem ak.look_ok {w:a0a} {b:Nat} {l:List (K×a0b)} (h:ak B w b l) {t e:a0t} (n:P.underlying t=some (.map kt e)) {z:a0b} (p:(zeroValue e).run P w= .ok z w) (k:K) (d:B.ok k):
 (Instr.lookup t (.map (some b)) (B.kv k) true).run P w= .ok (.tuple #[(lookL l k).getD z, .bool (lookL l k).isSome]) w:=by
 have j:=h.nodup;obtain ⟨q,g,f,i⟩:=h;obtain ⟨v,ps,m,c⟩:=g.look_ok B.keyed n p (zd:= .held z) (zp:=[]) rfl (B.key k d);rw [m];cases hl:lookL l k with
 |none=> rw [ak.at_none f i d hl] at c;simp only [heldR,a0f,a0C,a0B] at c;rw [c.1,Maps.has_false_of_atKey (λz=>ak.at_none f i d hl z)];rfl
 |some x=> rw [ak.at_some g f j d hl] at c;simp only [heldR,a0f,a0C,a0B] at c;rw [c.1,a03 (λz=>ak.at_some g f j d hl z)];rfl
theorem ak.look {w:a0a} {b:Nat} {l:List (K×a0b)} (h:ak B w b l) {t e:a0t} (n:P.underlying t=some (.map kt e)) {z:a0b} (p:(zeroValue e).run P w= .ok z w) (k:K) (d:B.ok k):
 (Instr.lookup t (.map (some b)) (B.kv k) false).run P w= .ok ((lookL l k).getD z) w:=by
 have j:=h.nodup;obtain ⟨q,f,g,i⟩:=h;obtain ⟨v,ps,m,c⟩:=f.lookup B.keyed n p (zd:= .held z) (zp:=[]) rfl (B.key k d);rw [m];cases hl:lookL l k with
 |none=> rw [ak.at_none g i d hl] at c;simp only [heldR,a0f,a0C,a0B] at c;rw [c.1];rfl
 |some x=> rw [ak.at_some f g j d hl] at c;simp only [heldR,a0f,a0C,a0B] at c;rw [c.1];rfl
theorem ak.size {b:List (Lit×DataW a0b)} {l:List (K×a0b)} (c:b.Perm (B.entries l)):Maps.size (DataW.map b)=l.length:=by
 show b.length=_;rw [c.length_eq];unfold dZ.entries;simp
theorem jN {l:List (K×a0b)} (c:∀p∈l,B.ok p.1) {k:K} (b:B.ok k):(B.entries l).filter (notKey (B.kl k))=B.entries (cB l k):=by
 induction l with
 |nil=>rfl
 |cons p l ih=>
  have ih:=ih λq g=>c q (a0k _ g);have f:=c p a0d;show List.filter _ ((B.kl p.1,DataW.held p.2)::B.entries l)=_;unfold cB;rw [a0R,a0R];by_cases e:p.1=k
  · rw [if_neg (by rw [Maps.notKey_iff (B.keyed.key (B.key k b))];simp [e]),if_neg (by simp [e])];exact ih
  · rw [if_pos (by rw [Maps.notKey_iff (B.keyed.key (B.key k b))];exact λd=>e (B.lit_inj f b d)),if_pos (by simp [e]),ih];rfl
theorem wO {b:List (Lit×DataW a0b)} {l:List (K×a0b)} (d:b.Perm (B.entries l)) (e:∀p∈l,B.ok p.1) {k:K} (f:B.ok k) (v:a0b):
 (putKey (B.kl k) (.held v) b).Perm (B.entries (putL l k v)):=by
 unfold putKey putL;refine (insert_perm _ _).trans ?_;have c:=d.filter (notKey (B.kl k));rw [jN e f] at c;refine (c.cons _).trans ?_;unfold dZ.entries;rw [List.map_append];exact (List.perm_append_comm (l₁:=[(B.kl k,DataW.held v)]) (l₂:=List.map _ (cB l k)))
theorem ak.of_owns {w:a0a} {b n:Nat} {l:List (K×a0b)} {d:List (Lit×DataW a0b)} (j:w.ownsMap P kt heldR b n (.map d)) (g:d.Perm (B.entries l)) (k:∀p∈l,B.ok p.1):ak B w b l:=by
 refine ⟨d,?_,g,k⟩;obtain ⟨f,c,h,i,m,e⟩:=j;refine ⟨f,c,h,i,?_,e⟩;have:d.length=f.size:=by injection e with e;rw [e,length_sorted];simp
 have q:d.length=l.length:=by rw [g.length_eq];unfold dZ.entries;simp
 omega
theorem ak.put_of {w':a0a} {b n:Nat} {l:List (K×a0b)} {d:List (Lit×DataW a0b)} (g:d.Perm (B.entries l)) (e:∀p∈l,B.ok p.1) {k:K} (f:B.ok k) (v:a0b) (h:w'.ownsMap P kt heldR b n ((DataW.map d).put (B.kl k) (.held v))):ak B w' b (putL l k v):=by
 rw [DataW.put_eq] at h;refine ak.of_owns h (wO g e f v) λp c=>?_;unfold putL cB at c;rcases List.mem_append.1 c with c|c
 · exact e p (List.mem_filter.1 c).1
 · rw [List.mem_singleton.1 c];exact f
theorem ak.del_of {w':a0a} {b n:Nat} {l:List (K×a0b)} {c:List (Lit×DataW a0b)} (f:c.Perm (B.entries l)) (d:∀p∈l,B.ok p.1) {k:K} (g:B.ok k) (h:w'.ownsMap P kt heldR b n ((DataW.map c).del (B.kl k))):ak B w' b (cB l k):=by
 rw [DataW.del_eq] at h;refine ak.of_owns h ?_ λp i=>d p (List.mem_filter.1 i).1;unfold delKey;have e:=f.filter (notKey (B.kl k));rw [jN d g] at e;exact e
variable (w:a0a) {ops:Array Oper} {rest:List Oper} {o:Oper} {a:Act} {Q:Exit->Act->a0a->Prop}
theorem cO (f:o.guard=none) (m x:a1d) (t:a0t) (j:o.op=Op.lookup t m x true) (e:a0t) (p:P.underlying t=some (.map kt e)) {z:a0b} (r:(zeroValue e).run P w= .ok z w)
 (b:Nat) (l:List (K×a0b)) (i:a.eval m= .map (some b)) (h:ak B w b l) (k:K) (g:B.ok k) (q:a.eval x=B.kv k)
 (c:wpList P ops Q rest (a.put o.dst (.tuple #[(lookL l k).getD z, .bool (lookL l k).isSome])) w):wpList P ops Q (o::rest) a w:=by
 refine wpList_plain f λs d=>?_;have n:=h.look_ok p r k g;unfold Oper.wp;simp [execOp,j,i,q,n,a0U];exact d _ _ c
theorem tn (p:o.guard=none) (m x v:a1d) (t:a0t) (s:o.op=Op.mapUpdate t m x v) (e:a0t) (u:P.underlying t=some (.map kt e))
 (b:Nat) (l:List (K×a0b)) (q:a.eval m= .map (some b)) (h:ak B w b l) (r:l.length<maxLen) (k:K) (c:B.ok k) (C:a.eval x=B.kv k) (y:a0b) (A:a.eval v=y)
 (n:∀w',ak B w' b (putL l k y)->w.mapTurned w' b->wpList P ops Q rest (a.put o.dst undef) w'):wpList P ops Q (o::rest) a w:=by
 obtain ⟨D,d,f,g⟩:=h;exact wpList_mapUpdate_in w p m x v t s kt e B.keyed u heldR b _ _ q d r (B.kv k) y (B.kl k) C A (B.key k c) (.held y) [] rfl λw' i j=>n w' (ak.put_of f g c y i) j
def cf (B:dZ P kt K) (w:a0a) (b r:Nat) (l left:List (K×a0b)):Prop:=
 ∃c f d,w.ranges P kt heldR b r l.length (.map c) f d/\c.Perm (B.entries l)/\(∀p∈l,B.ok p.1)/\left.Sublist l/\(∀p∈l,f (B.kl p.1)=true↔p∈left)/\∀z,f z=true->∃p∈left,B.kl p.1=z
theorem cf.map {w:a0a} {b r:Nat} {l left:List (K×a0b)} (h:cf B w b r l left):ak B w b l:=by
 obtain ⟨c,f,i,d,e,g,_⟩:=h;exact ⟨c,d.owns,e,g⟩
theorem cf.lt {w:a0a} {b r:Nat} {l left:List (K×a0b)} (h:cf B w b r l left):r<w.heap.size:=by
 obtain ⟨e,f,d,c,_⟩:=h;exact c.lt
theorem cf.ne {w:a0a} {b r:Nat} {l left:List (K×a0b)} (h:cf B w b r l left):r≠b:=by
 obtain ⟨e,f,d,c,_⟩:=h;exact c.ne
theorem cf.kept {w w':a0a} {b r:Nat} {l left:List (K×a0b)} (h:cf B w b r l left) (s:w'.heap[b]? =w.heap[b]?) (t:w'.heap[r]? =w.heap[r]?):cf B w' b r l left:=by
 obtain ⟨g,f,d,⟨e,c1,u,v,c,i,j,k,m,n,p⟩,q⟩:=h;exact ⟨g,f,d,⟨e,c1,u,v,c,s.trans i,j,k,m,t.trans n,p⟩,q⟩
theorem my (y:o.guard=none) (m:a1d) (t:a0t) (D:o.op=Op.range t m) (e:a0t) (F:P.underlying t=some (.map kt e))
 (b:Nat) (l:List (K×a0b)) (C:a.eval m= .map (some b)) (h:ak B w b l)
 (x:∀w',cf B w' b w.heap.size l l->Below w.heap.size w w'->w'.heap.size=w.heap.size+1->wpList P ops Q rest (a.put o.dst (.pointer (some ⟨w.heap.size,0,none⟩))) w'):wpList P ops Q (o::rest) a w:=by
 have j:=h.nodup;obtain ⟨s,g,f,i⟩:=h;refine wpList_range_own w y m t D kt e B.keyed F heldR b _ _ C g λw' u c v=>x w' ⟨s,_,_,u,f,i,List.Sublist.refl _,λp d=>?_,λz n=>?_⟩ ⟨c.os,c.tape,c.output,c.size,λk A=>c.block k A (by simp)⟩ v
 · refine ⟨λ_=>d,λ_=>?_⟩;exact a03 λz=>ak.at_some g f j (i p d) ((bu j).2 d) z
 · rw [Maps.has_eq,a0y] at n;obtain ⟨q,E,e⟩:=n;obtain ⟨p,d,r⟩:=List.mem_map.1 (f.mem_iff.1 E);exact ⟨p,d,by rw [<- a08 e, <- r]⟩
theorem gM {l:List (K×a0b)} (d:(l.map (·.1)).Nodup) {p q:K×a0b} (g:p∈l):q∈cB l p.1↔q∈l/\q≠p:=by
 unfold cB;rw [a0z];constructor
 · rintro ⟨h,b⟩;simp at b;exact ⟨h,λe=>b (by rw [e])⟩
 · rintro ⟨h,b⟩;refine ⟨h,?_⟩;simp only [a0v,decide_eq_false_iff_not];intro e;have c:=(bu d).2 h;have f:=(bu d (k:=p.1) (v:=p.2)).2 g;rw [e,f] at c;injection c with c
   exact b (a02 e c.symm)
theorem xK {l:List (K×a0b)} {p:K×a0b} (c:p∈l):(cB l p.1).length<l.length:=by
 unfold cB;have b:=a0w (λq:K×a0b=> !decide (q.1=p.1)) l;rcases a0O (l.filter λq=> !decide (q.1=p.1)).length l.length with h|h
 · exact h
 · have:=List.length_filter_eq_length_iff.1 (Nat.le_antisymm b h) p c;simp at this
theorem ph (hg:o.guard=none) (I:a1d) (a8:o.op=Op.next I false) (b r:Nat) (l left:List (K×a0b)) (a6:a.eval I= .pointer (some ⟨r,0,none⟩)) (h:cf B w b r l left)
 (a0:left=[]->wpList P ops Q rest (a.put o.dst (.tuple #[.bool false])) w)
 (a3:∀(p:K×a0b) (w':a0a),p∈left->B.ok p.1->cf B w' b r l (cB left p.1)->(cB left p.1).length<left.length->aq r w w'->
  (Instr.entry (.pointer (some ⟨r,0,none⟩))).run P w'= .ok (.tuple #[B.kv p.1,p.2]) w'->wpList P ops Q rest (a.put o.dst (.tuple #[.bool true,B.kv p.1,p.2])) w'):
 wpList P ops Q (o::rest) a w:=by
 have g:=h.map.nodup;obtain ⟨Z,f,X,J,M,E,t,N,O⟩:=h;refine wpList_next_ranges w hg I a8 kt B.keyed heldR (λv:a0b=>v) (λv:a0b=>v) (λkey U _=>⟨key,rfl⟩) (λv y _=>⟨v,rfl⟩) b r _ _ f X a6 J (λh0 hl=>a0 ?_) λx c U y w' Y G a7 T a4 a9 al u ac a5=>?_
 · rcases left with _|⟨p,left⟩
   · rfl
   · have:=(N p (t.subset a0d)).2 a0d;rw [hl] at this;cases this
 · obtain ⟨p,i,e⟩:=O U a7;have H:=t.subset i;have A:=E p H;have ad:x=B.kv p.1:=B.keyed.inj G (by rw [<- e];exact B.key _ A);have hc:p.2=c:=by have F:=a4 (.held undef);rw [<- e,ak.at_some J.owns M g A ((bu g (k:=p.1) (v:=p.2)).2 H)] at F;simp only [heldR,a0f] at T;rw [<- T] at F;injection F
   have R:(left.map (·.1)).Nodup:=g.sublist (t.map _);subst ad;subst hc;refine a3 p w' i A ⟨Z,_,Y,a9,M,E,(a1b).trans t,λq j=>?_,λz C=>?_⟩ (xK i) ⟨u.os,u.tape,u.output,ac,λk hk=>?_⟩ a5
   · rw [gM R i, <- N q j];simp only [a0j,a0v];constructor
     · rintro ⟨D,s⟩;refine ⟨D,λd=>?_⟩;rw [d,e,a07 (B.keyed.key G)] at s;cases s
     · rintro ⟨D,s⟩;refine ⟨D,Maps.sameKey_ne λd=>s ?_⟩;rw [<- e] at d;have n:=B.lit_inj (E q j) A d;have m:=(bu g (k:=q.1) (v:=q.2)).2 j;have W:=(bu g (k:=p.1) (v:=p.2)).2 H;rw [n,W] at m;injection m with m
       exact a02 n m.symm
   · simp only [a0j,a0v] at C;obtain ⟨q,j,d⟩:=O z C.1;refine ⟨q,(gM R i).2 ⟨j,λn=>?_⟩,d⟩;rw [<- d,n,e,a07 (B.keyed.key G)] at C;cases C.2
   · by_cases hk2:k<w.heap.size
     · exact u.block k hk2 (by simpa using hk)
     · rw [a0e (by omega),a0e (by omega)]
theorem dT {w w':a0a} {b:Nat} (h:w.mapTurned w' b):aq b w w':=by
 have d:=h.grown;have f:w'.heap.size=w.heap.size:=by obtain ⟨i,c,j,g,_,rfl⟩:=h;simp [Go.ChangeMaps.setBlock]
 refine ⟨d.os,d.tape,d.output,f,λk e=>?_⟩;by_cases h2:k<w.heap.size
 · exact d.block k h2 (by simpa using e)
 · rw [a0e (by omega),a0e (by omega)]
end
end
section
open Go.RowKit
set_option linter.unusedSectionVars false
structure Tot {K:Type} (lt:K->K->Bool):Prop where
 irr:∀a,lt a a=false
 tr:∀a b c,lt a b=true->lt b c=true->lt a c=true
 tot:∀a b,a≠b->lt a b=true∨lt b a=true
theorem Tot.asym {K:Type} {lt:K->K->Bool} (T:Tot lt) {a b:K} (h:lt a b=true):lt b a=false:=by
 cases h2:lt b a
 · rfl
 · have:=T.tr _ _ _ h h2;rw [T.irr] at this;cases this
section
variable {K V:Type} [DecidableEq K] (lt:K->K->Bool)
def insL:List (K×V)->K->V->List (K×V)
 |[],k,v=>[(k,v)]
 |p::l,k,v=>if lt p.1 k then p::insL l k v else if p.1=k then (k,v)::l else (k,v)::p::l
def findK (l:List (K×V)) (k:K):Option V:=(l.find? λp=>decide (p.1=k)).map (·.2)
def aw (l:List (K×V)):Prop:=l.Pairwise λp q=>lt p.1 q.1=true
def placeK (l:List (K×V)) (k:K):Nat:=(l.takeWhile λp=>lt p.1 k).length
variable {lt}
theorem gc (l:List (K×V)) (k:K):placeK lt l k<=l.length:=by
 unfold placeK;have:=(List.takeWhile_sublist (p:=λp:K×V=>lt p.1 k) (l:=l)).length_le;exact this
theorem kM (l:List (K×V)) (k:K) (i:Nat) (h:i<placeK lt l k) (b:i<l.length):lt l[i].1 k=true:=by
 unfold placeK at h;induction l generalizing i with
 |nil=>simp at b
 |cons p l ih=>
  rw [a0m] at h;split at h
  · rename_i c;cases i with
    |zero=>exact c
    |succ i=>exact ih i (by simpa using h) (by simpa using b)
  · simp at h
theorem kN (l:List (K×V)) (k:K) (h:placeK lt l k<l.length):lt l[placeK lt l k].1 k=false:=by
 induction l with
 |nil=>simp at h
 |cons p l ih=>
  unfold placeK at h ⊢;by_cases hp:lt p.1 k=true
  · have e:(List.takeWhile (λp:K×V=>lt p.1 k) (p::l)).length=placeK lt l k+1:=by rw [a0m,if_pos hp];rfl
    simp only [e,a05];exact ih (by rw [e] at h;simpa using h)
  · have e:(List.takeWhile (λp:K×V=>lt p.1 k) (p::l)).length=0:=by rw [a0m,if_neg hp];rfl
    simp only [e,a04];simpa using hp
theorem qF (l:List (K×V)) (k:K) (v:V):insL lt l k v=l.take (placeK lt l k)++(k,v)::(if (l[placeK lt l k]?).map (·.1)=some k then l.drop (placeK lt l k+1) else l.drop (placeK lt l k)):=by
 induction l with
 |nil=>rfl
 |cons p l ih=>
  unfold insL;by_cases hp:lt p.1 k=true
  · have e:placeK lt (p::l) k=placeK lt l k+1:=by unfold placeK;rw [a0m,if_pos hp];rfl
    rw [if_pos hp,e,ih];rfl
  · have e:placeK lt (p::l) k=0:=by unfold placeK;rw [a0m,if_neg hp];rfl
    rw [if_neg hp,e];by_cases hk:p.1=k
    · rw [if_pos hk,if_pos (by simp [hk])];rfl
    · rw [if_neg hk,if_neg (by simpa using hk)];rfl
theorem ez (T:Tot lt) {l:List (K×V)} (h:aw lt l) (k:K):findK l k=(l[placeK lt l k]?).bind λp=>if p.1=k then some p.2 else none:=by
 induction l with
 |nil=>rfl
 |cons p l ih=>
  obtain ⟨c,d⟩:=List.pairwise_cons.1 h;unfold findK;rw [a0G];by_cases hp:lt p.1 k=true
  · have e:placeK lt (p::l) k=placeK lt l k+1:=by unfold placeK;rw [a0m,if_pos hp];rfl
    have f:p.1≠k:=by intro e;rw [e,T.irr] at hp;cases hp
    rw [e];simp only [f,decide_false,List.getElem?_cons_succ];exact ih d
  · have e:placeK lt (p::l) k=0:=by unfold placeK;rw [a0m,if_neg hp];rfl
    rw [e];by_cases hk:p.1=k
    · simp [hk]
    · simp only [hk,decide_false,List.getElem?_cons_zero,Option.bind_some,if_false];have:l.find? (λp=>decide (p.1=k))=none:=by rw [a0A];intro q g b;simp at b;have:=c q g;rw [b] at this;exact hp this
      rw [this];rfl
theorem oH (T:Tot lt) {l:List (K×V)} (j:aw lt l) (k:K) (v:V) (q:K×V):q∈insL lt l k v↔q=(k,v)∨q∈l/\q.1≠k:=by
 induction l with
 |nil=>simp [insL]
 |cons p l ih=>
  obtain ⟨d,f⟩:=List.pairwise_cons.1 j;have ih:=ih f;unfold insL;by_cases hp:lt p.1 k=true
  · have g:p.1≠k:=by intro e;rw [e,T.irr] at hp;cases hp
    rw [if_pos hp,a0h,ih,a0h];constructor
    · rintro (rfl|rfl|⟨h,b⟩)
      · exact .inr ⟨.inl rfl,g⟩
      · exact .inl rfl
      · exact .inr ⟨.inr h,b⟩
    · rintro (rfl|⟨rfl|h,b⟩)
      · exact .inr (.inl rfl)
      · exact .inl rfl
      · exact .inr (.inr ⟨h,b⟩)
  · have c:∀q∈l,q.1≠k:=λq i e=>hp (by have:=d q i;rw [e] at this;exact this);rw [if_neg hp];by_cases hk:p.1=k
    · rw [if_pos hk,a0h,a0h];constructor
      · rintro (h|h)
        · exact .inl h
        · exact .inr ⟨.inr h,c q h⟩
      · rintro (h|⟨rfl|h,b⟩)
        · exact .inl h
        · exact absurd hk b
        · exact .inr h
    · rw [if_neg hk,a0h,a0h];constructor
      · rintro (h|rfl|h)
        · exact .inl h
        · exact .inr ⟨.inl rfl,hk⟩
        · exact .inr ⟨.inr h,c q h⟩
      · rintro (h|⟨h,b⟩)
        · exact .inl h
        · exact .inr h
theorem ew (T:Tot lt) {l:List (K×V)} (f:aw lt l) (k:K) (v:V):aw lt (insL lt l k v):=by
 induction l with
 |nil=>exact List.pairwise_singleton _ _
 |cons p l ih=>
  obtain ⟨c,d⟩:=List.pairwise_cons.1 f;unfold insL;by_cases hp:lt p.1 k=true
  · rw [if_pos hp];refine List.pairwise_cons.2 ⟨λq b=>?_,ih d⟩;rcases (oH T d k v q).1 b with rfl|⟨h,_⟩
    · exact hp
    · exact c q h
  · rw [if_neg hp];by_cases hk:p.1=k
    · rw [if_pos hk];exact List.pairwise_cons.2 ⟨λq b=>by have:=c q b;rw [hk] at this;exact this,d⟩
    · rw [if_neg hk];have e:lt k p.1=true:=by rcases T.tot _ _ hk with h|h;exact absurd h hp;exact h
      exact List.pairwise_cons.2 ⟨λq b=>by
       rcases List.mem_cons.1 b with rfl|b
       · exact e
       · exact T.tr _ _ _ e (c q b),f⟩
theorem nQ (T:Tot lt) {l:List (K×V)} (c:aw lt l):(l.map (·.1)).Nodup:=by
 rw [List.Nodup,a0p];exact c.imp λ{a b} h e=>by rw [e,T.irr] at h;cases h
theorem xo (T:Tot lt) {l:List (K×V)} (d:aw lt l) (k:K) (v:V):(l.filter (λp=> !decide (p.1=k))++[(k,v)]).Perm (insL lt l k v):=by
 have i:(insL lt l k v).Nodup:=(ew T d k v).imp λ{a b} h e=>by rw [e,T.irr] at h;cases h
 have g:l.Nodup:=d.imp λ{a b} h e=>by rw [e,T.irr] at h;cases h
 refine (a0Y ?_ i).2 λq=>?_
 · rw [List.nodup_append];refine ⟨g.sublist a1b,by simp,λa c b f e=>?_⟩;rw [a1e] at f;rw [a0z] at c;rw [e,f] at c;simp at c
 · rw [oH T d,List.mem_append,a0z,a1e];simp only [a0v,decide_eq_false_iff_not];constructor
   · rintro (h|h)
     · exact .inr h
     · exact .inl h
   · rintro (h|h)
     · exact .inr h
     · exact .inl h
theorem eA (T:Tot lt) {l:List (K×V)} (c:aw lt l) {k:K} {v:V}:findK l k=some v↔(k,v)∈l:=by
 have b:=nQ T c;clear c;induction l with
 |nil=>simp [findK]
 |cons p l ih=>
  rw [a0s,List.nodup_cons] at b;have ih:=ih b.2;unfold findK at ih ⊢;rw [a0G];by_cases e:p.1=k
  · simp only [e,decide_true,Option.map_some,a0f,a0h];constructor
    · rintro rfl;exact .inl (by rw [<- e])
    · rintro (h|h)
      · rw [<- h]
      · exact absurd (List.mem_map.2 ⟨_,h,e.symm⟩) b.1
  · simp only [e,decide_false,a0h];refine ih.trans ⟨.inr,?_⟩;rintro (h|h)
    · exact absurd (by rw [<- h]) e
    · exact h
end
abbrev RK:=Int×Int
abbrev PK:=RK×RK
def ltRK (a b:RK):Bool:=decide (a.1<b.1)||(decide (a.1=b.1)&&decide (a.2<b.2))
def ltPK (x y:PK):Bool:=if x.1=y.1 then ltRK x.2 y.2 else ltRK x.1 y.1
theorem eV {a b:RK}:ltRK a b=true↔a.1<b.1∨a.1=b.1/\a.2<b.2:=by unfold ltRK;simp
theorem aL:Tot ltRK:=by
 refine ⟨λa=>?_,λa b c f g=>?_,λa b h=>?_⟩
 · cases h:ltRK a a
   · rfl
   · rw [eV] at h;omega
 · rw [eV] at *;omega
 · rw [eV,eV];have:a.1≠b.1∨a.2≠b.2:=by
    rcases Classical.em (a.1=b.1) with e|e
    · exact .inr λd=>h (a02 e d)
    · exact .inl e
   omega
theorem dm:Tot ltPK:=by
 refine ⟨λa=>?_,λa b c g f=>?_,λa b h=>?_⟩
 · unfold ltPK;rw [if_pos rfl];exact aL.irr _
 · unfold ltPK at *;by_cases e1:a.1=b.1
   · rw [if_pos e1] at g;by_cases d:b.1=c.1
     · rw [if_pos d] at f;rw [if_pos (e1.trans d)];exact aL.tr _ _ _ g f
     · rw [if_neg d] at f;rw [if_neg (e1 ▸ d),e1];exact f
   · rw [if_neg e1] at g;by_cases d:b.1=c.1
     · rw [if_neg (d ▸ e1), <- d];exact g
     · rw [if_neg d] at f;have i:=aL.tr _ _ _ g f;rw [if_neg (by intro e;rw [e,aL.irr] at i;cases i)];exact i
 · unfold ltPK;by_cases e:a.1=b.1
   · rw [if_pos e,if_pos e.symm];exact aL.tot _ _ λd=>h (a02 e d)
   · rw [if_neg e,if_neg (Ne.symm e)];exact aL.tot _ _ e
structure ar where
 vs:List (RK×(Int×aB))
 ds:List (RK×Int)
 ps:List (PK×(Int×Bool))
def cat0:ar:=⟨[],[],[]⟩
structure ar.Ok (d:ar):Prop where
 vs:aw ltRK d.vs
 ds:aw ltRK d.ds
 ps:aw ltPK d.ps
 apart:∀p∈d.ps,ltRK p.1.1 p.1.2=true
def aV (b c:Bool) (f e:Int) (d:Nat):Int:=
 if b&&c then 22 else if b&&decide (e<=f) then 30 else if !b&&decide (5000<=d) then 2 else 0
def putC (d:ar) (k:RK) (n:Int) (r:aB):ar×Int:=
 if wrongR r≠0 then (d,11) else
 let e:=match findK d.vs k with
  |some (n',r')=>aV true (decide (n'=n)&&decide (r'=r)) n' n d.vs.length
  |none=>aV false false 0 n d.vs.length
 if e=0 then ({d with vs:=insL ltRK d.vs k (n,r)},0) else (d,e)
def dropC (d:ar) (k:RK) (n:Int):ar×Int:=
 let e:=match findK d.ds k with
  |some n'=>aV true (decide (n'=n)) n' n d.ds.length
  |none=>aV false false 0 n d.ds.length
 if e=0 then ({d with ds:=insL ltRK d.ds k n},0) else (d,e)
def pairK (a b:RK):PK:=if ltRK b a then (b,a) else (a,b)
def decideC (d:ar) (a b:RK) (n:Int) (j:Bool):ar×Int:=
 if a=b then (d,1) else
 let e:=match findK d.ps (pairK a b) with
  |some (n',j')=>aV true (decide (n'=n)&&decide (j'=j)) n' n d.ps.length
  |none=>aV false false 0 n d.ps.length
 if e=0 then ({d with ps:=insL ltPK d.ps (pairK a b) (n,j)},0) else (d,e)
def thereC (d:ar):List (RK×(Int×aB)):=d.vs.filter λp=>match findK d.ds p.1 with
 |some n=>decide (n<=p.2.1)
 |none=>true
def atC (l:List (RK×(Int×aB))) (k:RK):Option Nat:=l.findIdx? λp=>decide (p.1=k)
def keyC (l:List (RK×(Int×aB))) (i:Nat):RK:=(l.getD i ((0,0),(0,⟨0,0,[]⟩))).1
def eN (ps:List (PK×(Int×Bool))) (l:List (RK×(Int×aB))) (set:List Nat) (x y:Nat):Bool:=
 ps.any λp=> !p.2.2&&match atC l p.1.1,atC l p.1.2 with
  |some a,some b=>(decide (set.getD a 0=x)&&decide (set.getD b 0=y))||(decide (set.getD a 0=y)&&decide (set.getD b 0=x))
  |_,_=>false
def cK (ps:List (PK×(Int×Bool))) (l:List (RK×(Int×aB))) (set:List Nat) (a b:Nat):List Nat:=
 let x:=set.getD a 0
 let y:=set.getD b 0
 if x=y then set else if eN ps l set x y then set else set.map λz=>if z=x∨z=y then min x y else z
def joinedC (ps:List (PK×(Int×Bool))) (l:List (RK×(Int×aB))):List (Nat×Nat):=ps.filterMap λp=>
 if p.2.2 then match atC l p.1.1,atC l p.1.2 with
  |some a,some b=>some (a,b)
  |_,_=>none
 else none
def setsC (d:ar):List Nat:=
 (joinedC d.ps (thereC d)++pairsR ((thereC d).map λp=>p.2.2)).foldl (λset q=>cK d.ps (thereC d) set q.1 q.2) (a0i (thereC d).length)
def kH (d:ar):List (RK×RK):=(a0i (thereC d).length).map λi=>(keyC (thereC d) i,keyC (thereC d) ((setsC d).getD i 0))
def cV (d:ar):List RK:=((kH d).filter λp=>decide (p.1=p.2)).map (·.1)
def titleC (d:ar) (k:RK):Option RK:=findK (kH d) k
def membersC (d:ar) (t:RK):List RK:=((kH d).filter λp=>decide (p.2=t)).map (·.1)
end
section
open Go.RowKit
def rec0:aB:=⟨0,0,[]⟩
theorem mT (l:List aB) (i k:Nat):(i,k)∈pairsR l↔i<k/\k<l.length/\sq (l.getD i rec0) (l.getD k rec0)=true:=by
 unfold pairsR fv;simp only [List.mem_flatMap,List.mem_range,List.mem_map,a0z,a0j,decide_eq_true_eq,a0C,rec0];constructor
 · rintro ⟨a,g,b,⟨f,c,d⟩,rfl,rfl⟩;exact ⟨c,f,d⟩
 · rintro ⟨c,d,e⟩;exact ⟨i,by omega,k,⟨d,c,e⟩,rfl,rfl⟩
def ltNN (a b:Nat×Nat):Bool:=decide (a.1<b.1)||(decide (a.1=b.1)&&decide (a.2<b.2))
theorem iJ {a b:Nat×Nat}:ltNN a b=true↔a.1<b.1∨a.1=b.1/\a.2<b.2:=by unfold ltNN;simp
theorem om (l:List aB):(pairsR l).Pairwise λa b=>ltNN a b=true:=by
 unfold pairsR;rw [List.flatMap,List.pairwise_flatten];constructor
 · intro x e;obtain ⟨i,_,rfl⟩:=List.mem_map.1 e;unfold fv;rw [a0p];refine (List.Pairwise.filter _ List.pairwise_lt_range).imp ?_;intro a b h;rw [iJ];exact .inr ⟨rfl,h⟩
 · rw [a0p];refine List.pairwise_lt_range.imp ?_;intro a b h x e y f;unfold fv at e f;obtain ⟨c,_,rfl⟩:=List.mem_map.1 e;obtain ⟨d,_,rfl⟩:=List.mem_map.1 f;rw [iJ];exact .inl h
theorem uO (l:List aB):(pairsR l).length<=l.length * l.length:=by
 unfold pairsR;rw [List.length_flatMap];have h:∀(m:List Nat),(m.map λi=>(fv l l.length i).length).sum<=m.length * l.length:=by
  intro m;induction m with
  |nil=>simp
  |cons a m ih=>
   have:(fv l l.length a).length<=l.length:=by unfold fv;rw [a0F];exact a0I (a0w _ _) (by simp)
   simp only [a0s,List.sum_cons,a0P,Nat.add_mul];omega
 simpa using h (a0i l.length)
def cameR (l:List aB) (n:Nat) (b:List Bs) (p:Nat×Nat):Bool:=
 decide (p.1<p.2)&&((decide (p.2<n)&&(rawR (l.getD p.1 rec0).fields).any (rawR (l.getD p.2 rec0).fields).contains)||(decide (p.2=n)&&b.any (rawR (l.getD p.1 rec0).fields).contains))
theorem sZ (l:List aB) (o:List (Nat×Nat)) (h:∀p,p∈o↔cameR l l.length [] p=true/\40<=pointsR (l.getD p.1 rec0) (l.getD p.2 rec0)) (p:Nat×Nat):p∈o↔p∈pairsR l:=by
 rw [h,show p=(p.1,p.2) from rfl,mT];unfold cameR sq;simp;constructor
 · rintro ⟨⟨b,c,d⟩,e⟩;exact ⟨b,c,d,e⟩
 · rintro ⟨b,c,d,e⟩;exact ⟨⟨b,c,d⟩,e⟩
end
section
open Go.RowKit
abbrev VL:=List (RK×(Int×aB))
theorem dA {L:VL} {i:Nat} (h:i<L.length):keyC L i=L[i].1:=by
 unfold keyC;rw [a0r,a01 h];rfl
section
variable {L:VL}
theorem ij (d:aw ltRK L) {i j:Nat} (c:i<j) (b:j<L.length):ltRK (keyC L i) (keyC L j)=true:=by
 rw [dA (show i<L.length by omega),dA b];exact List.pairwise_iff_getElem.1 d i j (by omega) b c
theorem sF (c:aw ltRK L) {i j:Nat} (d:i<L.length) (e:j<L.length):ltRK (keyC L i) (keyC L j)=true↔i<j:=by
 constructor
 · intro h;rcases Nat.lt_trichotomy i j with b|b|b
   · exact b
   · subst b;rw [aL.irr] at h;cases h
   · rw [aL.asym (ij c b d)] at h;cases h
 · exact λh=>ij c h e
theorem cn (c:aw ltRK L) {i j:Nat} (d:i<L.length) (e:j<L.length) (h:keyC L i=keyC L j):i=j:=by
 rcases Nat.lt_trichotomy i j with b|b|b
 · have:=ij c b e;rw [h,aL.irr] at this;cases this
 · exact b
 · have:=ij c b d;rw [h,aL.irr] at this;cases this
theorem at_some {k:RK} {i:Nat} (h:atC L k=some i):i<L.length/\keyC L i=k:=by
 unfold atC at h;rw [List.findIdx?_eq_some_iff_getElem] at h;obtain ⟨b,c,_⟩:=h;exact ⟨b,by rw [dA b];simpa using c⟩
theorem at_none {k:RK} (h:atC L k=none) (i:Nat) (b:i<L.length):keyC L i≠k:=by
 unfold atC at h;rw [List.findIdx?_eq_none_iff] at h;have:=h L[i] (a0Q b);rw [dA b];simpa using this
theorem fK (c:aw ltRK L) {i:Nat} (b:i<L.length):atC L (keyC L i)=some i:=by
 cases h:atC L (keyC L i) with
 |none=>exact absurd rfl (at_none h i b)
 |some j=>rw [cn c (at_some h).1 b (at_some h).2]
end
structure cw (n:Nat) (set:List Nat):Prop where
 len:set.length=n
 le:∀i,i<n->set.getD i 0<=i
 rep:∀i,i<n->set.getD (set.getD i 0) 0=set.getD i 0
theorem cw.range (n:Nat):cw n (a0i n):=by
 have h:∀i,i<n->(a0i n).getD i 0=i:=λi b=>by simp [a0r,b]
 exact ⟨by simp,λi b=>by rw [h i b];exact a0X _,λi b=>by rw [h i b,h i b]⟩
theorem cw.lt {n:Nat} {set:List Nat} (h:cw n set) {i:Nat} (b:i<n):set.getD i 0<n:=Nat.lt_of_le_of_lt (h.le i b) b
def mergeS (set:List Nat) (x y:Nat):List Nat:=set.map λz=>if z=x∨z=y then min x y else z
theorem bg {set:List Nat} {x y i:Nat} (b:i<set.length):(mergeS set x y).getD i 0=if set.getD i 0=x∨set.getD i 0=y then min x y else set.getD i 0:=by
 unfold mergeS;simp [a0r,a01 b]
theorem so (set:List Nat) (x y:Nat):mergeS set x y=mergeS set y x:=by
 unfold mergeS;refine List.map_congr_left λz _=>?_;by_cases h:z=x∨z=y
 · rw [if_pos h,if_pos h.symm,Nat.min_comm]
 · rw [if_neg h,if_neg (λb=>h b.symm)]
theorem cw.merge {n:Nat} {set:List Nat} (h:cw n set) {x y:Nat} (k:x<n) (l:y<n) (g:set.getD x 0=x) (j:set.getD y 0=y):cw n (mergeS set x y):=by
 refine ⟨by unfold mergeS;rw [a0F,h.len],λi c=>?_,λi c=>?_⟩
 · rw [bg (by rw [h.len];exact c)];have:=h.le i c;split
   · rename_i b;rcases b with b|b<;>omega
   · exact this
 · have e:=bg (set:=set) (x:=x) (y:=y) (i:=i) (by rw [h.len];exact c);rw [e];by_cases b:set.getD i 0=x∨set.getD i 0=y
   · rw [if_pos b];have f:min x y<n:=by omega
     rw [bg (by rw [h.len];exact f)];rcases Nat.le_total x y with d|d
     · rw [Nat.min_eq_left d,g,if_pos (.inl rfl)]
     · rw [Nat.min_eq_right d,j,if_pos (.inr rfl)]
   · rw [if_neg b,bg (by rw [h.len];exact h.lt c),h.rep i c,if_neg b]
theorem fX (ps:List (PK×(Int×Bool))) (l:VL) (set:List Nat) (a b:Nat):cK ps l set a b=if set.getD a 0=set.getD b 0 then set else if eN ps l set (set.getD a 0) (set.getD b 0) then set else mergeS set (set.getD a 0) (set.getD b 0):=rfl
theorem cw.unite {n:Nat} {set:List Nat} (h:cw n set) (ps:List (PK×(Int×Bool))) (l:VL) {a b:Nat} (c:a<n) (d:b<n):cw n (cK ps l set a b):=by
 rw [fX];split
 · exact h
 · split
   · exact h
   · exact h.merge (h.lt c) (h.lt d) (h.rep a c) (h.rep b d)
def aU (L:VL) (set:List Nat) (t:Nat):List RK:=((a0i L.length).filter λi=>decide (set.getD i 0=t)).map (keyC L)
theorem aX {L:VL} {set:List Nat} {t:Nat} {k:RK}:k∈aU L set t↔∃i,i<L.length/\set.getD i 0=t/\keyC L i=k:=by
 unfold aU;simp only [List.mem_map,a0z,List.mem_range,decide_eq_true_eq,and_assoc]
theorem iT {L:VL} (k:aw ltRK L) (set:List Nat) (t:Nat):(aU L set t).Pairwise λa b=>ltRK a b=true:=by
 unfold aU;rw [a0p];have d:((a0i L.length).filter λi=>decide (set.getD i 0=t)).Pairwise (λi j=>i<j/\j<L.length):=by
  have e:(a0i L.length).Pairwise (λi j=>i<j/\j<L.length):=by rw [List.pairwise_iff_getElem];intro i j f c g;simp at f c;simp;exact ⟨g,c⟩
  exact e.filter _
 exact d.imp λ{i j} h=>ij k h.1 h.2
theorem gu {L:VL} (c:aw ltRK L) (set:List Nat) (t:Nat):(aU L set t).Nodup:=(iT c set t).imp λ{a b} h e=>by rw [e,aL.irr] at h;cases h
theorem jv (L:VL) (set:List Nat) (t:Nat):(aU L set t).length<=L.length:=by
 unfold aU;rw [a0F];exact a0I (a0w _ _) (by simp)
theorem ly {L:VL} {set:List Nat} {t:Nat} (b:t<L.length) (c:set.getD t 0=t):aU L set t≠[]:=λe=>by
 have:=(aX (L:=L) (set:=set)).2 ⟨t,b,c,rfl⟩;rw [e] at this;cases this
theorem q9 {L:VL} {set:List Nat} (c:set.length=L.length) {x y t:Nat} (e:t≠x) (f:t≠y):aU L (mergeS set x y) t=aU L set t:=by
 unfold aU;congr 1
 refine a0N λi b=>?_;rw [bg (by rw [c];simpa using b)];have d:min x y≠t:=by omega
 split
 · rename_i h;rw [decide_eq_false d];symm;rw [decide_eq_false_iff_not];omega
 · rfl
theorem vF {L:VL} (g:aw ltRK L) {set:List Nat} (v:set.length=L.length) {x y:Nat} (u:x≠y) {l ys:List RK} (m:l.Perm (aU L set x)) (n:ys.Perm (aU L set y)):
 (l++ys).Perm (aU L (mergeS set x y) (min x y)):=by
 refine (m.append n).trans ?_;refine (a0Y ?_ (gu g _ _)).2 λk=>?_
 · rw [List.nodup_append];refine ⟨gu g _ _,gu g _ _,λa r b s e=>?_⟩;obtain ⟨i,f,c,d⟩:=aX.1 r;obtain ⟨j,t,p,q⟩:=aX.1 s;have:=cn g f t (by rw [d,q,e]);subst this;exact u (c.symm.trans p)
 · rw [List.mem_append,aX,aX,aX];constructor
   · rintro (⟨i,f,c,d⟩|⟨i,f,c,d⟩)
     · exact ⟨i,f,by rw [bg (by omega),if_pos (.inl c)],d⟩
     · exact ⟨i,f,by rw [bg (by omega),if_pos (.inr c)],d⟩
   · rintro ⟨i,f,c,d⟩;rw [bg (by omega)] at c;by_cases h:set.getD i 0=x∨set.getD i 0=y
     · exact h.imp (λh=>⟨i,f,h,d⟩) (λh=>⟨i,f,h,d⟩)
     · rw [if_neg h] at c;exact absurd (show set.getD i 0=x∨set.getD i 0=y by omega) h
theorem si (a b:RK) (h:a≠b):pairK a b=pairK b a:=by
 unfold pairK;rcases aL.tot a b h with c|c
 · rw [if_neg (by rw [aL.asym c];decide),if_pos c]
 · rw [if_pos c,if_neg (by rw [aL.asym c];decide)]
theorem wS {p:PK} (h:ltRK p.1 p.2=true):pairK p.1 p.2=p/\pairK p.2 p.1=p:=by
 have b:pairK p.1 p.2=p:=by unfold pairK;rw [if_neg (by rw [aL.asym h];decide)]
 refine ⟨b,?_⟩;rw [si _ _ (λe=>by rw [e,aL.irr] at h;cases h)];exact b
def ir (ps:List (PK×(Int×Bool))) (b ys:List RK):Bool:=b.any λr=>ys.any λs=>match findK ps (pairK r s) with
 |some (_,false)=>true
 |_=>false
theorem iq {ps:List (PK×(Int×Bool))} {d ys:List RK}:ir ps d ys=true↔∃r∈d,∃s∈ys,∃n,findK ps (pairK r s)=some (n,false):=by
 unfold ir;simp only [a0y];constructor
 · rintro ⟨r,b,s,c,h⟩;refine ⟨r,b,s,c,?_⟩;split at h
   · exact ⟨_,by assumption⟩
   · cases h
 · rintro ⟨r,b,s,c,n,h⟩;exact ⟨r,b,s,c,by rw [h]⟩
theorem yb {ps:List (PK×(Int×Bool))} (v:aw ltPK ps) (E:∀p∈ps,ltRK p.1.1 p.1.2=true) {L:VL} (l:aw ltRK L) {set:List Nat} {x y:Nat} {C ys:List RK} (m:C.Perm (aU L set x)) (q:ys.Perm (aU L set y)):
 eN ps L set x y=ir ps C ys:=by
 rw [a0V,iq];unfold eN;rw [a0y];constructor
 · rintro ⟨p,A,h⟩;rw [a0j] at h;obtain ⟨f,h⟩:=h;have f:p.2.2=false:=by simpa using f
   obtain ⟨H,I⟩:=wS (E p A);have k:findK ps p.1=some (p.2.1,false):=by rw [eA dm v, <- f];exact A
   split at h
   · rename_i a b d e;have d:=at_some d;have e:=at_some e;simp only [a0H,a0j,decide_eq_true_eq] at h;rcases h with ⟨c,g⟩|⟨c,g⟩
     · exact ⟨p.1.1,m.mem_iff.2 (aX.2 ⟨a,d.1,c,d.2⟩),p.1.2,q.mem_iff.2 (aX.2 ⟨b,e.1,g,e.2⟩),p.2.1,by rw [H];exact k⟩
     · exact ⟨p.1.2,m.mem_iff.2 (aX.2 ⟨b,e.1,g,e.2⟩),p.1.1,q.mem_iff.2 (aX.2 ⟨a,d.1,c,d.2⟩),p.2.1,by rw [I];exact k⟩
   · cases h
 · rintro ⟨r,F,s,G,n,k⟩;obtain ⟨i,u,c,g⟩:=aX.1 (m.mem_iff.1 F);obtain ⟨j,f,t,D⟩:=aX.1 (q.mem_iff.1 G);rw [eA dm v] at k;refine ⟨_,k,?_⟩;subst g;subst D;unfold pairK;split
   · dsimp only;rw [fK l u,fK l f];simp only [c,t];simp
   · dsimp only;rw [fK l u,fK l f];simp only [c,t];simp
theorem j5 (d:ar):kH d=(a0i (thereC d).length).map λi=>(keyC (thereC d) i,keyC (thereC d) ((setsC d).getD i 0)):=rfl
theorem qJ {n:Nat} (ps:List (PK×(Int×Bool))) (l:VL):∀(b:List (Nat×Nat)) (set:List Nat),cw n set->(∀q∈b,q.1<n/\q.2<n)->cw n (b.foldl (λset q=>cK ps l set q.1 q.2) set)
 |[],_,h,_=>h
 |q::b,_,h,hq=>qJ ps l b _ (h.unite ps l (hq q a0d).1 (hq q a0d).2) λp c=>hq p (a0k _ c)
theorem mU {ps:List (PK×(Int×Bool))} {l:VL}:∀q∈joinedC ps l,q.1<l.length/\q.2<l.length:=by
 intro q c;unfold joinedC at c;obtain ⟨p,_,h⟩:=List.mem_filterMap.1 c;split at h
 · split at h
   · rename_i a b d e;injection h with h
     subst h;exact ⟨(at_some d).1,(at_some e).1⟩
   · cases h
 · cases h
theorem kP {l:List aB}:∀q∈pairsR l,q.1<l.length/\q.2<l.length:=by
 intro q b;have:=(mT l q.1 q.2).1 b;exact ⟨by omega,this.2.1⟩
theorem gE (d:ar):cw (thereC d).length (setsC d):=by
 unfold setsC;refine qJ _ _ _ _ (cw.range _) λq b=>?_;rcases List.mem_append.1 b with h|h
 · exact mU q h
 · have:=kP q h;simpa using this
theorem cW {d:ar} (h:d.Ok):aw ltRK (thereC d):=h.vs.filter _
theorem mB {d:ar} (h:d.Ok):cV d=((a0i (thereC d).length).filter λi=>decide ((setsC d).getD i 0=i)).map (keyC (thereC d)):=by
 unfold cV;rw [j5,List.filter_map,List.map_map];congr 1
 refine a0N λi b=>?_;have b:i<(thereC d).length:=by simpa using b
 simp only [Function.comp];rw [a0V,decide_eq_true_eq,decide_eq_true_eq];exact ⟨λe=>(cn (cW h) b ((gE d).lt b) e).symm,λe=>by rw [e]⟩
theorem iA {d:ar} (h:d.Ok) (k:RK):titleC d k=(atC (thereC d) k).map λi=>keyC (thereC d) ((setsC d).getD i 0):=by
 unfold titleC findK;rw [j5];cases c:atC (thereC d) k with
 |none=>
  have:(List.find? (λp:RK×RK=>decide (p.1=k)) ((a0i (thereC d).length).map λi=>(keyC (thereC d) i,keyC (thereC d) ((setsC d).getD i 0))))=none:=by rw [a0A];intro p m;obtain ⟨i,e,rfl⟩:=List.mem_map.1 m;simpa using at_none c i (by simpa using e)
  rw [this];rfl
 |some i=>
  obtain ⟨e,l⟩:=at_some c;have g:findK ((a0i (thereC d).length).map λi=>(keyC (thereC d) i,keyC (thereC d) ((setsC d).getD i 0))) k=some (keyC (thereC d) ((setsC d).getD i 0)):=by
   have n:aw ltRK ((a0i (thereC d).length).map λi=>(keyC (thereC d) i,keyC (thereC d) ((setsC d).getD i 0))):=by unfold aw;rw [a0p];rw [List.pairwise_iff_getElem];intro a b c f j;simp at c f;simp only [List.getElem_range];exact ij (cW h) j f
   rw [eA aL n];exact List.mem_map.2 ⟨i,by simpa using e,by rw [l]⟩
  unfold findK at g;rw [g];rfl
theorem p7 {d:ar} (h:d.Ok) {t:Nat} (c:t<(thereC d).length):membersC d (keyC (thereC d) t)=aU (thereC d) (setsC d) t:=by
 unfold membersC aU;rw [j5,List.filter_map,List.map_map];congr 1
 refine a0N λi b=>?_;have b:i<(thereC d).length:=by simpa using b
 simp only [Function.comp];rw [a0V,decide_eq_true_eq,decide_eq_true_eq];exact ⟨λe=>cn (cW h) ((gE d).lt b) c e,λe=>by rw [e]⟩
theorem ow {d:ar} {k:RK} (c:∀t,t<(thereC d).length->(setsC d).getD t 0=t->keyC (thereC d) t≠k):membersC d k=[]:=by
 unfold membersC;rw [List.map_eq_nil_iff,List.filter_eq_nil_iff,j5];intro p e;obtain ⟨i,b,rfl⟩:=List.mem_map.1 e;have b:i<(thereC d).length:=by simpa using b
 simpa using c _ ((gE d).lt b) ((gE d).rep i b)
end
section
open Go.RowKit
section
variable {ps:List (PK×(Int×Bool))} {L:VL}
theorem rK {n:Nat} {set:List Nat} (h:cw n set) (i j:Nat) {a b:Nat} (c:a<n) (d:b<n) (e:set.getD a 0=set.getD b 0):
 (cK ps L set i j).getD a 0=(cK ps L set i j).getD b 0:=by
 rw [fX];split
 · exact e
 · split
   · exact e
   · rw [bg (by rw [h.len];exact c),bg (by rw [h.len];exact d),e]
theorem lg {n:Nat} {a b:Nat} (d:a<n) (f:b<n):∀(c:List (Nat×Nat)) (set:List Nat),cw n set->(∀q∈c,q.1<n/\q.2<n)->set.getD a 0=set.getD b 0->
 (c.foldl (λset q=>cK ps L set q.1 q.2) set).getD a 0=(c.foldl (λset q=>cK ps L set q.1 q.2) set).getD b 0
 |[],_,_,_,e=>e
 |q::c,_,h,hq,e=>lg d f c _ (h.unite ps L (hq q a0d).1 (hq q a0d).2) (λp g=>hq p (a0k _ g)) (rK h q.1 q.2 d f e)
theorem tg (b:∀p∈ps,p.2.2=true) (set:List Nat) (x y:Nat):eN ps L set x y=false:=by
 cases h:eN ps L set x y
 · rfl
 · unfold eN at h;obtain ⟨p,c,h⟩:=List.any_eq_true.1 h;rw [b p c] at h;simp at h
theorem po (e:∀p∈ps,p.2.2=true) {n:Nat} {set:List Nat} (h:cw n set) {a b:Nat} (c:a<n) (d:b<n):
 (cK ps L set a b).getD a 0=(cK ps L set a b).getD b 0:=by
 rw [fX,tg e];split
 · assumption
 · rw [if_neg (by simp),bg (by rw [h.len];exact c),bg (by rw [h.len];exact d),if_pos (.inl rfl),if_pos (.inr rfl)]
theorem jJ (e:∀p∈ps,p.2.2=true) {n:Nat}:∀(b:List (Nat×Nat)) (set:List Nat),cw n set->(∀q∈b,q.1<n/\q.2<n)->∀q∈b,
 (b.foldl (λset q=>cK ps L set q.1 q.2) set).getD q.1 0=(b.foldl (λset q=>cK ps L set q.1 q.2) set).getD q.2 0
 |p::b,set,h,hq,q,d=>by
  have c:=hq p a0d
  have g:=h.unite ps L c.1 c.2
  have f:∀q∈b,q.1<n/\q.2<n:=λr i=>hq r (a0k _ i)
  rcases List.mem_cons.1 d with rfl|d
  · exact lg c.1 c.2 b _ g f (po e h c.1 c.2)
  · exact jJ e b _ g f q d
def np (ps:List (PK×(Int×Bool))) (L:VL) (set:List Nat):Prop:=∀p∈ps,p.2.2=false->∀a b,atC L p.1.1=some a->atC L p.1.2=some b->set.getD a 0≠set.getD b 0
theorem pn {n:Nat} (g:L.length=n) {set:List Nat} (h:cw n set) (f:np ps L set) (i j:Nat):np ps L (cK ps L set i j):=by
 rw [fX];split
 · exact f
 · rename_i s;split
   · exact f
   · rename_i q;intro p l k a b c d e;have m:=f p l k a b c d;have r:a<set.length:=by rw [h.len, <- g];exact (at_some c).1
     have lb:b<set.length:=by rw [h.len, <- g];exact (at_some d).1
     rw [bg r,bg lb] at e;refine q ?_;unfold eN;rw [a0y];refine ⟨p,l,?_⟩;rw [k,c,d];simp only [Bool.not_false,Bool.true_and,a0H,a0j,decide_eq_true_eq];generalize set.getD i 0=x at *;generalize set.getD j 0=y at *;generalize set.getD a 0=u at *;generalize set.getD b 0=v at *;by_cases h1:u=x∨u=y
     · by_cases h2:v=x∨v=y
       · omega
       · rw [if_pos h1,if_neg h2] at e;omega
     · by_cases h2:v=x∨v=y
       · rw [if_neg h1,if_pos h2] at e;omega
       · rw [if_neg h1,if_neg h2] at e;exact absurd e m
theorem jI {n:Nat} (c:L.length=n):∀(b:List (Nat×Nat)) (set:List Nat),cw n set->(∀q∈b,q.1<n/\q.2<n)->np ps L set->
 np ps L (b.foldl (λset q=>cK ps L set q.1 q.2) set)
 |[],_,_,_,k=>k
 |q::b,_,h,hq,k=>jI c b _ (h.unite ps L (hq q a0d).1 (hq q a0d).2) (λp d=>hq p (a0k _ d)) (pn c h k q.1 q.2)
end
theorem qB (d:ar) (h:d.Ok):np d.ps (thereC d) (a0i (thereC d).length):=by
 intro p k _ a b f g e;obtain ⟨n,l⟩:=at_some f;obtain ⟨lb,m⟩:=at_some g;have c:∀i,i<(thereC d).length->(a0i (thereC d).length).getD i 0=i:=λi j=>by simp [a0r,j]
 rw [c a n,c b lb] at e;subst e;have:=h.apart p k;rw [<- l, <- m,aL.irr] at this;cases this
theorem pO (d:ar):∀q∈joinedC d.ps (thereC d)++pairsR ((thereC d).map λp=>p.2.2),q.1<(thereC d).length/\q.2<(thereC d).length:=λq b=>by
 rcases List.mem_append.1 b with h|h
 · exact mU q h
 · have:=kP q h;simpa using this
theorem uz (d:ar) (h:d.Ok):np d.ps (thereC d) (setsC d):=by
 unfold setsC;exact jI rfl _ _ (cw.range _) (pO d) (qB d h)
theorem uA (d:ar) (c:∀p∈d.ps,p.2.2=true) {p:PK×(Int×Bool)} (e:p∈d.ps) {a b:Nat} (f:atC (thereC d) p.1.1=some a) (g:atC (thereC d) p.1.2=some b):(setsC d).getD a 0=(setsC d).getD b 0:=by
 unfold setsC;refine jJ c _ _ (cw.range _) (pO d) (a,b) (List.mem_append.2 (.inl ?_));unfold joinedC;refine List.mem_filterMap.2 ⟨p,e,?_⟩;rw [c p e,f,g];rfl
theorem rp {d:ar} (h:d.Ok) {p:PK×(Int×Bool)} (i:p∈d.ps) (g:p.2.2=false) {s t:RK} (c:titleC d p.1.1=some s) (f:titleC d p.1.2=some t):s≠t:=by
 rw [iA h] at c f;cases ha:atC (thereC d) p.1.1 with
 |none=>rw [ha] at c;cases c
 |some a=>
  cases hb:atC (thereC d) p.1.2 with
  |none=>rw [hb] at f;cases f
  |some b=>
   rw [ha] at c;rw [hb] at f;injection c with c
   injection f with f
   rw [<- c, <- f];intro e;exact uz d h p i g a b ha hb (cn (cW h) ((gE d).lt (at_some ha).1) ((gE d).lt (at_some hb).1) e)
theorem sG {d:ar} (h:d.Ok) (f:∀p∈d.ps,p.2.2=true) {p:PK×(Int×Bool)} (g:p∈d.ps) {s t:RK} (c:titleC d p.1.1=some s) (e:titleC d p.1.2=some t):s=t:=by
 rw [iA h] at c e;cases ha:atC (thereC d) p.1.1 with
 |none=>rw [ha] at c;cases c
 |some a=>
  cases hb:atC (thereC d) p.1.2 with
  |none=>rw [hb] at e;cases e
  |some b=>
   rw [ha] at c;rw [hb] at e;injection c with c
   injection e with e
   rw [<- c, <- e];dsimp only;rw [uA d f g ha hb]
end
section
open Go.RowKit Go.Maps
section
variable {K:Type} [DecidableEq K]
theorem cZ (p:K×a0b) (l:List (K×a0b)) (k:K):lookL (p::l) k=if p.1=k then some p.2 else lookL l k:=by
 unfold lookL;rw [a0G];by_cases h:p.1=k
 · rw [if_pos h];simp [h]
 · rw [if_neg h];simp [h]
theorem kT (l:List (K×a0b)) (k j:K):lookL (cB l k) j=if j=k then none else lookL l j:=by
 induction l with
 |nil=>unfold cB lookL;simp
 |cons p l ih=>
  unfold cB at ih ⊢;rw [a0R];by_cases h:p.1=k
  · rw [if_neg (by simp [h]),ih,cZ];by_cases h2:j=k
    · rw [if_pos h2,if_pos h2]
    · rw [if_neg h2,if_neg h2,if_neg (λe=>h2 (e.symm.trans h))]
  · rw [if_pos (by simp [h]),cZ,cZ,ih];by_cases h2:j=k
    · rw [if_pos h2,if_pos h2,if_neg (λe=>h (e.trans h2))]
    · rw [if_neg h2,if_neg h2]
theorem xg (l m:List (K×a0b)) (k:K):lookL (l++m) k=(lookL l k).or (lookL m k):=by
 induction l with
 |nil=>simp [lookL]
 |cons p l ih=> rw [a0S,cZ,cZ,ih];split<;>simp
theorem df (l:List (K×a0b)) (k:K) (v:a0b) (j:K):lookL (putL l k v) j=if j=k then some v else lookL l j:=by
 unfold putL;rw [xg,kT,cZ];by_cases h:j=k
 · rw [if_pos h,if_pos h,if_pos h.symm];rfl
 · rw [if_neg h,if_neg h,if_neg (λe=>h e.symm)];simp [lookL]
theorem qg {l:List (K×a0b)} {k:K}:(lookL l k).isSome=true↔k∈l.map (·.1):=by
 induction l with
 |nil=>simp [lookL]
 |cons p l ih=>
  rw [cZ,a0s,a0h];by_cases h:p.1=k
  · simp [h]
  · rw [if_neg h,ih];exact ⟨.inr,λb=>b.resolve_left (λe=>h e.symm)⟩
theorem zv (l:List (K×a0b)) (k:K):(cB l k).length<=l.length:=a0w _ _
theorem yA (l:List (K×a0b)) (k:K) (v:a0b):(putL l k v).length<=l.length+1:=by
 unfold putL;rw [a0q];have:=zv l k;simp;omega
end
end
section
open Go.RowKit
theorem aa {w:a0a} {b:Nat} {c:Array a0b} {t:a0t} (h:w.heap[b]? =some (.cells c t (0,0))) (i:Nat):w.cell? ⟨b,i,none⟩=c[i]? :=by simp [World.cell?,h]
theorem ab {w:a0a} {b:Nat} {c:Array a0b} {t:a0t} (h:w.heap[b]? =some (.cells c t (0,0))) (i:Nat):w.frozen? ⟨b,i,none⟩=false:=by simp [World.frozen?,h]
theorem ae {w:a0a} {b:Nat} {o:Obj} (h:w.heap[b]? =some o):b<w.heap.size:=(Array.getElem?_eq_some_iff.1 h).1
theorem an {w:a0a} {b:Nat} {c:Array a0b} {t:a0t} (h:w.heap[b]? =some (.cells c t (0,0))) (i:Nat) (u:a0b):(w.setCell ⟨b,i,none⟩ u).heap[b]? =some (.cells (c.setIfInBounds i u) t (0,0)):=by
 simp only [World.setCell,Array.getElem?_modify,if_true,h];rfl
theorem aK {w:a0a} {B:Nat} {e:a0t} {k n:Nat} {v:a0b} {c:List a0b} (h:w.ownsRow B e k v n c):∃a b,v= .slice a n b:=by
 rcases h.2 with ⟨rfl,rfl⟩|⟨g,b,d,rfl,_⟩
 · exact ⟨_,_,rfl⟩
 · exact ⟨_,_,rfl⟩
theorem kJ {w:a0a} {B:Nat} {e:a0t} {k n:Nat} {v:a0b} {c:List a0b} (h:w.ownsRow B e k v n c):∀j,v.ownBlock=some j->j<w.heap.size:=λj b=>(h.lt j b).2
theorem ah {w w':a0a} {B:Nat} {e:a0t} {k:Nat} {v:a0b} {n:Nat} {c:List a0b} (h:w.ownsRow B e k v n c) (l:∀g,v.ownBlock=some g->w'.heap[g]? =w.heap[g]?):w'.ownsRow B e k v n c:=by
 refine ⟨h.1,?_⟩;rcases h.2 with m|⟨g,d,f,b,i,j,p⟩
 · exact .inl m
 · exact .inr ⟨g,d,f,b,i,by rw [l g (by rw [b];simp [Value.ownBlock])];exact j,p⟩
theorem bE {w:a0a} {B b:Nat} {e:a0t} {k:Nat} {v:a0b} {n:Nat} {c:List a0b} (h:w.ownsRow B e k v n c) (i:b<=B):w.ownsRow b e k v n c:=by
 refine ⟨h.1,?_⟩;rcases h.2 with l|⟨g,d,f,p,j,m⟩
 · exact .inl l
 · exact .inr ⟨g,d,f,p,a0I i j,m⟩
theorem aD {w:a0a} {B e k n:Nat} {v:a0b} {f:List a0b} (h:w.ownsRow B e k v n f) {g:Nat} (b:v.ownBlock=some g):∃c,w.heap[g]? =some (.cells c e (0,0)):=by
 rcases h.2 with ⟨rfl,_⟩|⟨j,i,c,rfl,_,d,_⟩
 · cases b
 · injection b with b;subst b;exact ⟨c,d⟩
theorem dj {w:a0a} {g k e f:Nat} {c d:Array a0b} (i:w.heap[g]? =some (.cells c e (0,0))) (b:w.heap[k]? =some (.cells d f (0,0))) (h:e≠f):g≠k:=by
 rintro rfl;rw [i] at b;injection b with b
 injection b with _ b
 exact h b
structure ag (F:Nat->Prop) (w:a0a) (F':Nat->Prop) (w':a0a):Prop where
 os:w'.os=w.os
 tape:w'.tape=w.tape
 output:w'.output=w.output
 size:w.heap.size<=w'.heap.size
 block:∀k,k<w.heap.size->¬F k->w'.heap[k]? =w.heap[k]?
 new:∀k,F' k->F k∨w.heap.size<=k
theorem ag.refl (F:Nat->Prop) (w:a0a):ag F w F w:=⟨rfl,rfl,rfl,a0X _,λ_ _ _=>rfl,λ_ h=> .inl h⟩
theorem ag.trans {F d e:Nat->Prop} {x y z:a0a} (h:ag F x d y) (k:ag d y e z):ag F x e z:=
 ⟨k.os.trans h.os,k.tape.trans h.tape,k.output.trans h.output,a0I h.size k.size,
  λj c f=>(k.block j (Nat.lt_of_lt_of_le c h.size) (λg=>by rcases h.new j g with b|b;exact f b;omega)).trans (h.block j c f),
  λj c=>by
   rcases k.new j c with b|b
   · exact h.new j b
   · exact .inr (a0I h.size b)⟩
theorem ag.not {F b:Nat->Prop} {x y:a0a} (h:ag F x b y) {k:Nat} (f:k<x.heap.size) (e:¬F k):¬b k:=λd=>by
 rcases h.new k d with c|c
 · exact e c
 · omega
theorem ag.of_below {F:Nat->Prop} {w w':a0a} (h:Below w.heap.size w w'):ag F w F w':=⟨h.os,h.tape,h.output,h.size,λk b _=>h.block k b,λ_ h=> .inl h⟩
theorem ag.of_only {F:Nat->Prop} {b:Nat} {w w':a0a} (h:aq b w w') (c:F b):ag F w F w':=⟨h.os,h.tape,h.output,by rw [h.size];exact a0X _,λk _ d=>h.block k (λe=>d (e ▸ c)),λ_ h=> .inl h⟩
theorem ag.below {F b:Nat->Prop} {w w':a0a} {lo:Nat} (h:ag F w b w') (e:∀k,F k->lo<=k) (g:lo<=w.heap.size):Below lo w w'/\∀k,b k->lo<=k:=
 ⟨⟨h.os,h.tape,h.output,h.size,λk d=>h.block k (by omega) (λf=>by have:=e k f;omega)⟩,λk d=>by rcases h.new k d with c|c;exact e k c;omega⟩
theorem ag.cell {F b:Nat->Prop} {w w':a0a} (h:ag F w b w') {k:Nat} (c:k<w.heap.size) (d:¬F k) (i:Nat):w'.cell? ⟨k,i,none⟩=w.cell? ⟨k,i,none⟩:=a0x (a:=⟨k,i,none⟩) (h.block k c d)
theorem ag.widen {F G c:Nat->Prop} {w w':a0a} (h:ag F w c w') (d:∀k,F k->G k):ag G w c w':=
 ⟨h.os,h.tape,h.output,h.size,λk b f=>h.block k b (λe=>f (d k e)),λk b=>(h.new k b).imp (d k) id⟩
theorem ag.lo {N b:Nat->Prop} {w w':a0a} {lo:Nat} (h:ag N w b w') (c:∀k,N k->lo<=k) (d:lo<=w.heap.size):∀k,b k->lo<=k:=(h.below c d).2
end
section
open Go.RowKit Go.Maps Go.WideShapes Go.WideElems
open Go.ChangeMaps (setBlock heap_setBlock_same heap_setBlock_other)
set_option linter.unusedSectionVars false
section
variable {P:a0W} {kt:a0t} {K:Type} [DecidableEq K] {B:dZ P kt K}
theorem gU {w:a0a} {b:Nat} {d:Array MapEntry} {c:Nat} (e:w.heap[b]? =some (.map d c)) (o:Obj):aq b w (setBlock w b o):=
 ⟨rfl,rfl,rfl,by simp [setBlock],λ_ f=>heap_setBlock_other e o f⟩
theorem ak.entry {w:a0a} {b:Nat} {l:List (K×a0b)} (h:ak B w b l) (KL:WideMaps.KeyLaw P kt) {t e:a0t} (Y:P.underlying t=some (.map kt e)) {z:a0b} (hz:∀u:a0a,(zeroValue e).run P u= .ok z u) (k:K) (H:B.ok k) (hn:l.length<maxLen):
 ∃(s:Nat) (c:Array MapEntry) (c1:Nat),(Instr.mapEntry t (.map (some b)) (B.kv k)).run P w= .ok (.tuple #[(lookL l k).getD z, .int .i64 s]) (setBlock w b (.map c c1))/\
  (setBlock w b (.map c c1)).heap[b]? =some (.map c c1)/\aq b w (setBlock w b (.map c c1))/\
  ∀(i:a0a) (val:a0b),i.heap[b]? =some (.map c c1)->∃M,(Instr.entryStore t (.map (some b)) (.int .i64 s) val).run P i= .ok () M/\ak B M b (putL l k val)/\aq b i M:=by
 have a3:=h.nodup;obtain ⟨C,O,D,R⟩:=h;obtain ⟨a0,ac,j,F,al,E⟩:=id O;have n:=B.key k H;obtain ⟨A,s,c,c1,a6,a2,a7⟩:=entry_then_store KL Y hz j F n;have W:C.Perm (a0.toList.map (rg P kt heldR)):=by
  injection E with E
  rw [E];exact sorted_perm _
 have a8:A=(lookL l k).getD z:=by
  rcases a2 with ⟨N,T,a1,G⟩|⟨a4,G⟩
  · obtain ⟨y,g⟩:=F.reads N T;obtain ⟨q,X,a5⟩:=rd_val g;have f:=rd_key g;rw [a1,n] at f;injection f with f
    simp only [heldR,a0f] at X;have a9:y=(B.kl k, .held A):=a02 f.symm (by rw [a5, <- X,G]);have I:(B.kl k,DataW.held A)∈C:=W.mem_iff.2 (List.mem_map.2 ⟨N,T,by rw [rg_of g,a9]⟩);obtain ⟨p,U,m⟩:=List.mem_map.1 (D.mem_iff.1 I);injection m with e1 e2
    injection e2 with e2
    have e3:=B.lit_inj (R p U) H e1;have:lookL l k=some A:=(bu a3).2 (by rw [<- e3, <- e2];exact U);rw [this];rfl
  · have:lookL l k=none:=gH.2 λv hv=>by have I:(B.kl k,DataW.held v)∈C:=D.mem_iff.2 (List.mem_map.2 ⟨_,hv,rfl⟩);obtain ⟨x,Z,m⟩:=List.mem_map.1 (W.mem_iff.1 I);obtain ⟨y,g⟩:=F.reads x Z;rw [rg_of g] at m;have f:=rd_key g;rw [m] at f;exact a4 x Z (B.keyed.inj f n)
    rw [this];exact G
 refine ⟨s,c,c1,by rw [a6,a8];rfl,heap_setBlock_same j _,gU j _,λi val J=>?_⟩;obtain ⟨ad,c2,hs,hu⟩:=a7 i val J;refine ⟨_,hs,?_,gU J _⟩;obtain ⟨w',r,ho,_⟩:=O.store B.keyed Y hn n (val:=val) (d:= .held val) (ps:=[]) rfl;rw [hu] at r;injection r with _ r
 subst r;have:=ak.put_of D R H val ho;exact this.block (by rw [heap_setBlock_same J,heap_setBlock_same j])
end
section
variable {P:a0W} {o:Oper} {a:Act} {K:Act->a0a->Prop} {Q:Exit->Act->a0a->Prop} {w:a0a}
theorem bn {t:a0t} {m x:a1d} (c:o.op=Op.mapEntry t m x) {v:a0b} {w':a0a} (d:(Instr.mapEntry t (a.eval m) (a.eval x)).run P w= .ok v w') (b:K (a.put o.dst v) w'):o.wp P a w K Q:=by
 unfold Oper.wp;simp [execOp,c,d,a0U];exact b
theorem aW {t:a0t} {m s x:a1d} (c:o.op=Op.entryStore t m s x) {w':a0a} (d:(Instr.entryStore t (a.eval m) (a.eval s) (a.eval x)).run P w= .ok () w') (b:K (a.put o.dst undef) w'):o.wp P a w K Q:=by
 unfold Oper.wp;simp [execOp,c,d,a0U];exact b
end
end
section
open Go
section
variable {P:a0W} {ops:Array Oper} {Q:Exit->Act->a0a->Prop} {md:a0J} {S:a0a->Prop} {z:Nat}
def anyT (P:a0W) (md:a0J) (ops:Array Oper) (Q:Exit->Act->a0a->Prop) (S:a0a->Prop) (z:Nat):Nat->Array Bool->Act->a0a->Prop
 |0,listed,a,w=>a0c md ops listed=[]/\Q .normal a w
 |n+1,listed,a,w=>
  (a0c md ops listed=[]->Q .normal a w)/\
  ∀i∈a0c md ops listed,wpOp P ops Q i (λb w'=>(i≠z->S w')/\anyT P md ops Q S z n (listed.setIfInBounds i true) b w') a w
theorem lH:∀(n:Nat) (listed:Array Bool) (a:Act) (w:a0a),anyT P md ops Q S z n listed a w->wpAny P md ops Q n listed a w
 |0,_,_,_,h=>h
 |n+1,_,_,_,h=>⟨h.1,λi d=>wpOp_mono (λb w' c=>lH n _ b w' c.2) (h.2 i d)⟩
def nw (md:a0J) (ops:Array Oper) (z i:Nat):Bool:=match ops[z]? with
 |some o=>o.after.any λe=>a0E md e&&e.on==i
 |none=>false
theorem uP {i:Nat} {g:Array Bool} (c:nw md ops z i=true) (h:g.getD i true=false):z∉a0c md ops g:=by
 intro m;obtain ⟨_,o,l,j⟩:=mem_ready.1 m;unfold nw at c;rw [l] at c;simp only at c;obtain ⟨e,k,f⟩:=Array.any_eq_true'.1 c;simp only [a0j,beq_iff_eq] at f;have b:=j e k f.1;rw [f.2] at b;rcases a0O i g.size with d|d
 · simp [d] at h b;rw [h] at b;cases b
 · simp [a0e d] at b
theorem ti {i:Nat} {g:Oper} {v:a0b} (u:ops[i]? =some g) (E:∀(j:Nat) (o:Oper) l b,ops[j]? =some o->o.op≠ .select l b)
 (M:∀c a w,Q (.panic c) (a.put g.dst v) w->Q (.panic c) a w) (hz:nw md ops z i=true) (a2:i≠z):
 ∀(n:Nat) (d:Array Bool) (a:Act) (w:a0a),
  (∀j f,ops[j]? =some f->j≠i->d.getD j true=false->(∀e∈f.after,a0E md e=true->e.on≠i)->g.apart ops f=true)->
  i∈a0c md ops d->YieldsIf P ops S g v a->S w->
  anyT P md ops Q S z n (d.setIfInBounds i true) (a.put g.dst v) w->anyT P md ops Q S z (n+1) d a w:=by
 intro n;induction n with
 |zero=>
  intro d a w _ r s p H;refine ⟨λh=>absurd r (by rw [h];simp),λj q=>?_⟩;by_cases hji:j=i
  · subst hji;exact s.wpOp u p ⟨λ_=>p,H⟩
  · exact absurd (a0L q hji) (by rw [H.1];simp)
 |succ n ih=>
  intro d a w C r s p H;have y:=(mem_ready.1 r).1;refine ⟨λh=>absurd r (by rw [h];simp),λj q=>?_⟩;by_cases hji:j=i
  · subst hji;exact s.wpOp u p ⟨λ_=>p,H⟩
  · have U:j≠z:=λe=>uP hz y (e ▸ q);obtain ⟨D,f,x,N⟩:=mem_ready.1 q;have a0:∀e∈f.after,a0E md e=true->e.on≠i:=by
     intro e R O T;have m:=N e R O;rw [T] at m;rcases a0O i d.size with t|t
     · simp [t] at y m;rw [y] at m;cases m
     · simp [a0e t] at m
    have I:=wpOp_putIf x (C j f x hji D a0) (λl b=>E i g l b u) (λl b=>E j f l b x) M s (H.2 j (a0L q hji));refine wpOp_mono (λG w' J=>?_) I;obtain ⟨a1,A,F⟩:=J;refine ⟨A,ih (d.setIfInBounds j true) G w' ?_ (a0L r (Ne.symm hji)) a1 (A U) ?_⟩
    · intro k ok W X Y Z;refine C k ok W X ?_ Z;by_cases hjk:j=k
      · subst hjk;exact D
      · rwa [getD_set_ne true hjk] at Y
    · rw [a00 _ _ hji];exact F
theorem bQ {i:Nat} {d:Oper} {v:a0b} {n:Nat} {b:Array Bool} {a:Act} {w:a0a} (e:ops[i]? =some d)
 (m:a0o ops=true) (j:a0u md ops b i=true) (l:(a0c md ops b).contains i=true) (q:nw md ops z i=true) (k:i≠z)
 (f:∀c a w,Q (.panic c) (a.put d.dst v) w->Q (.panic c) a w) (g:S w) (p:YieldsIf P ops S d v a)
 (h:anyT P md ops Q S z n (b.setIfInBounds i true) (a.put d.dst v) w):anyT P md ops Q S z (n+1) b a w:=
 ti e (Region.noSelect_spec m) f q k n b a w (Region.free_spec e j) (by simpa using l) p g h
theorem AW {i:Nat} {o:Oper} {n:Nat} {c:Array Bool} {a:Act} {w:a0a} (m:ops[i]? =some o) (e:a0c md ops c=[i]) (l:o.guard=none)
 (h:∀K:Act->a0a->Prop,(∀b w',(i≠z->S w')->anyT P md ops Q S z n (c.setIfInBounds i true) b w'->K b w')->o.wp P a w K Q):anyT P md ops Q S z (n+1) c a w:=by
 refine ⟨λf=>absurd f (by rw [e];simp),λj d=>?_⟩;rw [e] at d;obtain rfl:j=i:=by simpa using d
 unfold wpOp;rw [m];simp only [a0g,l,if_true];exact .inl (h _ λb w' g k=>⟨g,k⟩)
theorem AF {c:Array Bool} {a:Act} {w:a0a} (b:a0c md ops c=[]) (h:Q .normal a w):∀n,anyT P md ops Q S z n c a w
 |0=>⟨b,h⟩
 |_+1=>⟨λ_=>h,by rw [b];simp⟩
theorem zM {id:Nat} {l:List Oper} {a:Act} {w:a0a} (S:a0a->Prop) (z:Nat) (b:P.follows .mixedOrders=true)
 (h:anyT P .any l.toArray Q S z l.toArray.size (Array.replicate l.toArray.size false) a w.drew):(Code.region id l.toArray true).wp P Q a w:=
 wp_region_any b (lH _ _ _ _ h)
end
end
section
open Go.RowKit
section
variable {P:a0W} {md:a0J} {ops:Array Oper} {Q:Exit->Act->a0a->Prop} {S:a0a->Prop} {z:Nat}
theorem rz {i:Nat} {g:Oper} {v:a0b} (x:ops[i]? =some g) (D:∀(j:Nat) (o:Oper) l b,ops[j]? =some o->o.op≠ .select l b)
 (M:∀c a w,Q (.panic c) (a.put g.dst v) w->Q (.panic c) a w) (hz:ops[z]? =none):
 ∀(n:Nat) (d:Array Bool) (a:Act) (w:a0a),
  (∀j f,ops[j]? =some f->j≠i->d.getD j true=false->(∀e∈f.after,a0E md e=true->e.on≠i)->g.apart ops f=true)->
  i∈a0c md ops d->YieldsIf P ops S g v a->S w->
  anyT P md ops Q S z n (d.setIfInBounds i true) (a.put g.dst v) w->anyT P md ops Q S z (n+1) d a w:=by
 intro n;induction n with
 |zero=>
  intro d a w _ r t p H;refine ⟨λh=>absurd r (by rw [h];simp),λj s=>?_⟩;by_cases hji:j=i
  · subst hji;exact t.wpOp x p ⟨λ_=>p,H⟩
  · exact absurd (a0L s hji) (by rw [H.1];simp)
 |succ n ih=>
  intro d a w A r t p H;have E:=(mem_ready.1 r).1;refine ⟨λh=>absurd r (by rw [h];simp),λj s=>?_⟩;by_cases hji:j=i
  · subst hji;exact t.wpOp x p ⟨λ_=>p,H⟩
  · obtain ⟨C,f,q,N⟩:=mem_ready.1 s;have U:j≠z:=λe=>by rw [e,hz] at q;cases q
    have a0:∀e∈f.after,a0E md e=true->e.on≠i:=by
     intro e R O T;have m:=N e R O;rw [T] at m;rcases a0O i d.size with u|u
     · simp [u] at E m;rw [E] at m;cases m
     · simp [a0e u] at m
    have I:=wpOp_putIf q (A j f q hji C a0) (λl b=>D i g l b x) (λl b=>D j f l b q) M t (H.2 j (a0L s hji));refine wpOp_mono (λG w' J=>?_) I;obtain ⟨a1,y,F⟩:=J;refine ⟨y,ih (d.setIfInBounds j true) G w' ?_ (a0L r (Ne.symm hji)) a1 (y U) ?_⟩
    · intro k ok W X Y Z;refine A k ok W X ?_ Z;by_cases hjk:j=k
      · subst hjk;exact C
      · rwa [getD_set_ne true hjk] at Y
    · rw [a00 _ _ hji];exact F
theorem bT {i:Nat} {d:Oper} {v:a0b} {n:Nat} {b:Array Bool} {a:Act} {w:a0a} (e:ops[i]? =some d)
 (l:a0o ops=true) (j:a0u md ops b i=true) (k:(a0c md ops b).contains i=true) (p:ops[z]? =none)
 (f:∀c a w,Q (.panic c) (a.put d.dst v) w->Q (.panic c) a w) (g:S w) (m:YieldsIf P ops S d v a)
 (h:anyT P md ops Q S z n (b.setIfInBounds i true) (a.put d.dst v) w):anyT P md ops Q S z (n+1) b a w:=
 rz e (Region.noSelect_spec l) f p n b a w (Region.free_spec e j) (by simpa using k) m g h
theorem AV {i:Nat} {o:Oper} {n:Nat} {c:Array Bool} {a:Act} {w:a0a} (m:ops[i]? =some o) (e:a0c md ops c=[i]) (l:a0g o (yielded ops a.tmps)=true)
 (h:∀K:Act->a0a->Prop,(∀b w',(i≠z->S w')->anyT P md ops Q S z n (c.setIfInBounds i true) b w'->K b w')->o.wp P a w K Q):anyT P md ops Q S z (n+1) c a w:=by
 refine ⟨λf=>absurd f (by rw [e];simp),λj d=>?_⟩;rw [e] at d;obtain rfl:j=i:=by simpa using d
 unfold wpOp;rw [m];simp only [l,if_true];exact .inl (h _ λb w' g k=>⟨g,k⟩)
theorem bZ {i j:Nat} {o g:Oper} {n:Nat} {e:Array Bool} {a:Act} {w:a0a} (q:ops[i]? =some o) (r:ops[j]? =some g)
 (h:a0c md ops e=[i,j]) (m:o.guard=none) (p:g.guard=none)
 (c:∀K:Act->a0a->Prop,(∀b w',(i≠z->S w')->anyT P md ops Q S z n (e.setIfInBounds i true) b w'->K b w')->o.wp P a w K Q)
 (d:∀K:Act->a0a->Prop,(∀b w',(j≠z->S w')->anyT P md ops Q S z n (e.setIfInBounds j true) b w'->K b w')->g.wp P a w K Q):anyT P md ops Q S z (n+1) e a w:=by
 refine ⟨λl=>absurd l (by rw [h];simp),λk f=>?_⟩;rw [h] at f;simp only [a0h,List.not_mem_nil,or_false] at f;rcases f with rfl|rfl
 · unfold wpOp;rw [q];simp only [a0g,m,if_true];exact .inl (c _ λb w' c d=>⟨c,d⟩)
 · unfold wpOp;rw [r];simp only [a0g,p,if_true];exact .inl (d _ λb w' c d=>⟨c,d⟩)
theorem lI {i j k:Nat} {o g h:Oper} {n:Nat} {e:Array Bool} {a:Act} {w:a0a} (u:ops[i]? =some o) (v:ops[j]? =some g) (x:ops[k]? =some h)
 (l:a0c md ops e=[i,j,k]) (r:o.guard=none) (s:g.guard=none) (t:h.guard=none)
 (c:∀K:Act->a0a->Prop,(∀b w',(i≠z->S w')->anyT P md ops Q S z n (e.setIfInBounds i true) b w'->K b w')->o.wp P a w K Q)
 (d:∀K:Act->a0a->Prop,(∀b w',(j≠z->S w')->anyT P md ops Q S z n (e.setIfInBounds j true) b w'->K b w')->g.wp P a w K Q)
 (p:∀K:Act->a0a->Prop,(∀b w',(k≠z->S w')->anyT P md ops Q S z n (e.setIfInBounds k true) b w'->K b w')->h.wp P a w K Q):anyT P md ops Q S z (n+1) e a w:=by
 refine ⟨λm=>absurd m (by rw [l];simp),λq f=>?_⟩;rw [l] at f;simp only [a0h,List.not_mem_nil,or_false] at f;rcases f with rfl|rfl|rfl
 · unfold wpOp;rw [u];simp only [a0g,r,if_true];exact .inl (c _ λb w' c d=>⟨c,d⟩)
 · unfold wpOp;rw [v];simp only [a0g,s,if_true];exact .inl (d _ λb w' c d=>⟨c,d⟩)
 · unfold wpOp;rw [x];simp only [a0g,t,if_true];exact .inl (p _ λb w' c d=>⟨c,d⟩)
end
end
section
variable {P:a0W} {md:a0J} {ops:Array Oper} {Q:Exit->Act->a0a->Prop} {S:a0a->Prop} {z:Nat}
def TL (_:List Nat):Prop:=True
theorem tkL (l:List Nat):TL l:=trivial
theorem tkO {i:Nat} {is:List Nat} (_:TL (i::is)):TL is:=trivial
theorem tk {n:Nat} {d:Array Bool} {a:Act} {w:a0a} {b:Oper} (i:Nat) (v:a0b) (k:ops[i]? =some b) (f:S w)
 (q:∀w',S w'->(execOp a.eval b).run P w'= .ok (.value v) w') (h:anyT P md ops Q S z n (d.setIfInBounds i true) (a.put b.dst v) w)
 (j:a0g b (yielded ops a.tmps)=true:=by rfl) (p:a0o ops=true:=by kernel_rfl) (g:a0u md ops d i=true:=by kernel_rfl)
 (m:(a0c md ops d).contains i=true:=by kernel_rfl) (r:nw md ops z i=true:=by kernel_rfl) (l:i≠z:=by decide)
 (e:∀c a w,Q (.panic c) (a.put b.dst v) w->Q (.panic c) a w:=by exact λ_ _ _ h=>h):anyT P md ops Q S z (n+1) d a w:=
 bQ k p g m r l e f (Or.inl ⟨j,q⟩) h
theorem tkI {n:Nat} {d:Array Bool} {a:Act} {w:a0a} {b:Oper} {i:Nat} {is:List Nat} (_:TL (i::is)) (v:a0b) (k:ops[i]? =some b) (f:S w)
 (q:∀w',S w'->(execOp a.eval b).run P w'= .ok (.value v) w') (h:anyT P md ops Q S z n (d.setIfInBounds i true) (a.put b.dst v) w)
 (j:a0g b (yielded ops a.tmps)=true:=by rfl) (p:a0o ops=true:=by kernel_rfl) (g:a0u md ops d i=true:=by kernel_rfl)
 (m:(a0c md ops d).contains i=true:=by kernel_rfl) (r:nw md ops z i=true:=by kernel_rfl) (l:i≠z:=by decide)
 (e:∀c a w,Q (.panic c) (a.put b.dst v) w->Q (.panic c) a w:=by exact λ_ _ _ h=>h):anyT P md ops Q S z (n+1) d a w:=
 tk i v k f q h j p g m r l e
theorem tf {n:Nat} {b:Array Bool} {a:Act} {w:a0a} {d:Oper} (i:Nat) (k:ops[i]? =some d) (f:S w)
 (h:anyT P md ops Q S z n (b.setIfInBounds i true) (a.put d.dst undef) w)
 (j:a0g d (yielded ops a.tmps)=false:=by rfl) (p:a0o ops=true:=by kernel_rfl) (g:a0u md ops b i=true:=by kernel_rfl)
 (m:(a0c md ops b).contains i=true:=by kernel_rfl) (q:nw md ops z i=true:=by kernel_rfl) (l:i≠z:=by decide)
 (e:∀c a w,Q (.panic c) (a.put d.dst undef) w->Q (.panic c) a w:=by exact λ_ _ _ h=>h):anyT P md ops Q S z (n+1) b a w:=
 bQ k p g m q l e f (Or.inr ⟨j,rfl⟩) h
theorem tkS {n:Nat} {d:Array Bool} {a:Act} {w:a0a} {b:Oper} (i:Nat) (v:a0b) (k:ops[i]? =some b) (f:S w)
 (p:∀w',S w'->(execOp a.eval b).run P w'= .ok (.value v) w') (h:anyT P md ops Q S z n (d.setIfInBounds i true) (a.put b.dst v) w)
 (j:a0g b (yielded ops a.tmps)=true:=by rfl) (m:a0o ops=true:=by kernel_rfl) (g:a0u md ops d i=true:=by kernel_rfl)
 (l:(a0c md ops d).contains i=true:=by kernel_rfl) (q:ops[z]? =none:=by rfl)
 (e:∀c a w,Q (.panic c) (a.put b.dst v) w->Q (.panic c) a w:=by exact λ_ _ _ h=>h):anyT P md ops Q S z (n+1) d a w:=
 bT k m g l q e f (Or.inl ⟨j,p⟩) h
theorem tkIS {n:Nat} {d:Array Bool} {a:Act} {w:a0a} {b:Oper} {i:Nat} {is:List Nat} (_:TL (i::is)) (v:a0b) (k:ops[i]? =some b) (f:S w)
 (p:∀w',S w'->(execOp a.eval b).run P w'= .ok (.value v) w') (h:anyT P md ops Q S z n (d.setIfInBounds i true) (a.put b.dst v) w)
 (j:a0g b (yielded ops a.tmps)=true:=by rfl) (m:a0o ops=true:=by kernel_rfl) (g:a0u md ops d i=true:=by kernel_rfl)
 (l:(a0c md ops d).contains i=true:=by kernel_rfl) (q:ops[z]? =none:=by rfl)
 (e:∀c a w,Q (.panic c) (a.put b.dst v) w->Q (.panic c) a w:=by exact λ_ _ _ h=>h):anyT P md ops Q S z (n+1) d a w:=
 tkS i v k f p h j m g l q e
theorem tfS {n:Nat} {b:Array Bool} {a:Act} {w:a0a} {d:Oper} (i:Nat) (k:ops[i]? =some d) (f:S w)
 (h:anyT P md ops Q S z n (b.setIfInBounds i true) (a.put d.dst undef) w)
 (j:a0g d (yielded ops a.tmps)=false:=by rfl) (m:a0o ops=true:=by kernel_rfl) (g:a0u md ops b i=true:=by kernel_rfl)
 (l:(a0c md ops b).contains i=true:=by kernel_rfl) (p:ops[z]? =none:=by rfl)
 (e:∀c a w,Q (.panic c) (a.put d.dst undef) w->Q (.panic c) a w:=by exact λ_ _ _ h=>h):anyT P md ops Q S z (n+1) b a w:=
 bT k m g l p e f (Or.inr ⟨j,rfl⟩) h
theorem dO {n:Nat} {b:Array Bool} {a:Act} {w:a0a} {o:Oper} (i:Nat) (e:ops[i]? =some o)
 (h:∀K:Act->a0a->Prop,(∀c w',(i≠z->S w')->anyT P md ops Q S z n (b.setIfInBounds i true) c w'->K c w')->o.wp P a w K Q)
 (f:a0c md ops b=[i]:=by kernel_rfl) (d:o.guard=none:=by rfl):anyT P md ops Q S z (n+1) b a w:=
 AW e f d h
theorem dB {n:Nat} {b:Array Bool} {a:Act} {w:a0a} {o:Oper} (i:Nat) (e:ops[i]? =some o)
 (h:∀K:Act->a0a->Prop,(∀c w',(i≠z->S w')->anyT P md ops Q S z n (b.setIfInBounds i true) c w'->K c w')->o.wp P a w K Q)
 (f:a0c md ops b=[i]:=by kernel_rfl) (d:a0g o (yielded ops a.tmps)=true:=by rfl):anyT P md ops Q S z (n+1) b a w:=
 AV e f d h
theorem dN {n:Nat} {b:Array Bool} {a:Act} {w:a0a} (h:Q .normal a w) (c:a0c md ops b=[]:=by kernel_rfl):anyT P md ops Q S z n b a w:=AF c h n
theorem wT {id:Nat} {l:List Oper} {a:Act} {w:a0a} (S:a0a->Prop) (z:Nat)
 (h:anyT P .any l.toArray Q S z l.toArray.size (Array.replicate l.toArray.size false) a w.drew) (b:P.follows .mixedOrders=true:=by kernel_rfl):(Code.region id l.toArray true).wp P Q a w:=
 zM S z b h
end
section
open Go.RowKit
def upB (c:UInt8):UInt8:=if 97<=c.toNat/\c.toNat<=122 then c - 32 else c
theorem kZ (s:Bs):∀c∈isbnGo s,(digitB c||xB c)=true:=by
 induction s with
 |nil=>intro c h;cases h
 |cons d l ih=>
  intro c h;unfold isbnGo at h;split at h
  · rename_i b;rcases List.mem_cons.1 h with rfl|h
    · exact b
    · exact ih c h
  · split at h
    · exact ih c h
    · cases h
theorem pm {c:UInt8} (h:digitB c=true):upB c=c:=by
 unfold digitB at h;simp only [a0j,decide_eq_true_eq] at h;unfold upB;rw [if_neg (by omega)]
theorem wh:∀c:UInt8,(digitB c||xB c)=true->digitB (upB c)=digitB c/\xB (upB c)=xB c/\(decide (upB c=88)=xB c)/\valB (upB c)<=40:=by
 have:∀n:Fin 256,(digitB (a0l n.val)||xB (a0l n.val))=true->digitB (upB (a0l n.val))=digitB (a0l n.val)/\xB (upB (a0l n.val))=xB (a0l n.val)/\(decide (upB (a0l n.val)=88)=xB (a0l n.val))/\valB (upB (a0l n.val))<=40:=by decide+kernel
 intro c;have h:=this ⟨c.toNat,c.toNat_lt⟩;simpa using h
theorem nc (l:Bs) (h:∀c∈l,(digitB c||xB c)=true):(l.map upB).all digitB=l.all digitB:=by
 induction l with
 |nil=>rfl
 |cons c l ih=>simp only [a0s,List.all_cons];rw [ih λx b=>h x (a0k _ b),(wh c (h c a0d)).1]
theorem tu (l:Bs) (h:l.all digitB=true):l.map upB=l:=by
 induction l with
 |nil=>rfl
 |cons c l ih=> simp only [List.all_cons,a0j] at h;simp only [a0s];rw [pm h.1,ih h.2]
def tenSum:Nat->Bs->Nat
 |_,[]=>0
 |k,c::l=>(10 - k) * (if c=88 then 10 else valB c)+tenSum (k+1) l
theorem yk (k:Nat) (l:Bs) (h:∀c∈l,(digitB c||xB c)=true):tenSum k (l.map upB)=pB k l:=by
 induction l generalizing k with
 |nil=>rfl
 |cons c l ih=>
  have g:=wh c (h c a0d);simp only [a0s];unfold tenSum pB;rw [ih (k+1) λx b=>h x (a0k _ b)];have e:(upB c=88)↔xB c=true:=by rw [<- g.2.2.1];simp
  by_cases b:xB c=true
  · rw [if_pos (e.2 b),if_pos b]
  · rw [if_neg (λf=>b (e.1 f)),if_neg b]
    have i:digitB c=true:=by have:=h c a0d;simp only [a0H] at this;rcases this with d|d
                             · exact d
                             · exact absurd d b
    rw [pm i]
def eY (u:Bs):Option Bs:=
 if u.length=10/\(tenSum 0 u%11=0/\(u.take 9).all digitB=true) then some ([57,55,56]++u.take 9++[checkR ([57,55,56]++u.take 9)])
 else if u.length=13/\u.all digitB=true/\checkR u=u.getD 12 0 then some u
 else none
theorem Av (s:Bs):eY ((isbnGo s).map upB)=isbnR s:=by
 have b:=kZ s;unfold eY isbnR;simp only;generalize isbnGo s=o at b;rw [a0F, <- List.map_take,nc (o.take 9) λc f=>b c (List.mem_of_mem_take f),yk 0 o b];have d:(pB 0 o%11=0/\(o.take 9).all digitB=true)↔yl o=true:=by unfold yl;simp
 by_cases h1:o.length=10/\yl o=true
 · have e:=(d.2 h1.2).2;rw [if_pos ⟨h1.1,d.2 h1.2⟩,if_pos h1,tu _ e]
 · rw [if_neg λh=>h1 ⟨h.1,d.1 h.2⟩,if_neg h1];unfold fF;rw [nc o b];by_cases h3:o.all digitB=true
   · rw [tu _ h3]
   · rw [if_neg λh=>h3 h.2.1,if_neg λh=>h3 h.2.1]
end
end Go.Proofs.YtjcimanddakkaaaGreatDoor
