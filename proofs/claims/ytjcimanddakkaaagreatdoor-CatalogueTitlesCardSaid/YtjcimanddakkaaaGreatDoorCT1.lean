/- Lemmas. -/
import Derived.WalkSpells
import Derived.WalkLawsBesides
import Derived.Lib.Hide
import Derived.Maps.Ext
import Derived.Lib.MapLaws
import Derived.OrdersHeld
import Derived.WideKeyEntry
set_option maxRecDepth 100000
set_option maxHeartbeats 8000000
namespace Go.Proofs.YtjcimanddakkaaaGreatDoor
open _root_.Option renaming some→X,none→Y
open Go.Obj renaming cells→au
open Go.Value renaming bool→av,slice→ay,int→J,map→aC
open Go.Ending renaming returned→ax
open Go.IntKind renaming u8→az
open Go renaming World→aS,Value→aT,TypeId→b2,ready_mono→cv,Program→da,Operand→e5
open Go.Region renaming ready→bb,wanted→bc,noSelect→bt,free→b1,binds→cj,Mode→cq
open _root_.Array renaming getElem?_eq_none→bd,setIfInBounds_comm→cg,replicate→c5
open _root_.Option.some renaming injEq→bk
open _root_.List renaming mem_cons→bl,mem_cons_self→bs,range→bv,takeWhile_cons→bA,take_succ_eq_append_getElem→bO,pairwise_map→bY,length_append→b0,map_cons→b3,length_filter_le→b5,length_cons→b7,mem_cons_of_mem→b8,mem_filter→b9,getD_eq_getElem?_getD→ca,find?_eq_none→cb,any_eq_true→ci,length_map→cl,find?_cons→cm,flatMap_cons→cx,filter_congr→cy,getElem_mem→cP,filter_cons→cQ,cons_append→c3,perm_ext_iff_of_nodup→dc,getElem?_eq_getElem→dq,getElem_cons_zero→dz,getElem_cons_succ→eb,take_succ_cons→ex,flatMap_append→eQ,filter_sublist→e0,mem_singleton→e7
open _root_.UInt8 renaming ofNat→bw
open _root_.Bool renaming and_eq_true→bB,not_eq_true'→b4,or_eq_true→c7,eq_iff_iff→c9
open Go.World renaming cell?_of_block→b6
open Go.DataW.held renaming injEq→cc
open _root_.Prod.mk renaming injEq→cd
open _root_.Nat renaming add_assoc→ch,le_trans→cp,le_refl→cu,lt_or_ge→cz,zero_le→e6
open Go.Utf8 renaming decode→cs
open Go.Ending renaming returned→c4
open Go.Result renaming andThen→c6
open Go.Lib renaming decodeL→dd
open Go.Value renaming bool→dk
open _root_.Prod renaming ext→dx
open Go.Maps renaming has_true_of_atKey→dy
open Go.IntKind renaming i64→eg
open Go.WideAt renaming sameKey_self→ej,sameKey_eq→er
open Go.RowKit.Below renaming heap_setCell→e4
section
open Go.RowKit
theorem Qe{α:Sort _}(e:α):∃x,e=x:=⟨e,rfl⟩
theorem Qf{α:Type _}{a:Option α}{x y:α}(h:a=X x)(e:x=y:=by kernel_rfl):a=X y:=e▸h
theorem _root_.Go.RowKit.Hid.o{p:Prop}(h:Go.RowKit.Hid p):p:=h
abbrev Bw(w w':aS):Prop:=Go.RowKit.Below w.heap.size w w'
abbrev Bk(w:aS)(b:Nat)(c:Array aT)(t:b2):Prop:=w.heap[b]?=X (au c t (0,0))
abbrev Cl(w:aS)(b i:Nat)(v:aT):Prop:=w.cell? ⟨b,i,Y⟩=X v
instance:CoeOut aS Nat:=⟨λw=>w.heap.size⟩
instance{α}:CoeOut (List α) Nat:=⟨λw=>w.length⟩
instance:CoeOut UInt8 Nat:=⟨λw=>w.toNat⟩
instance:Coe Nat Addr:=⟨λw=>⟨w,0,none⟩⟩
instance:Coe Nat (Option Addr):=⟨λw=>some ⟨w,0,none⟩⟩
instance:Coe Int aT:=⟨λw=>.int .i64 w⟩
instance:Coe Nat aT:=⟨λw=>.int .i64 w⟩
abbrev Bs:=List UInt8
abbrev S(l:Bs):aT:=.string ⟨l.toArray⟩
theorem C2(l:Bs)(k:Nat)(h:k<(⟨l.toArray⟩:ByteArray).size):(⟨l.toArray⟩:ByteArray)[k]'h=l[k]'(by simpa[ByteArray.size]using h):=rfl
attribute [go_sem] C2
theorem Ca(l:Bs):(⟨l.toArray⟩:ByteArray).toList=l:=by rw[Lib.toList_data]
theorem uW(l:Bs)(a b:Nat):(⟨l.toArray⟩:ByteArray).extract a b=⟨((l.take b).drop a).toArray⟩:=by
 apply ByteArray.ext;rw[ByteArray.data_extract];simp[List.extract_eq_take_drop,List.drop_take]
theorem ye(a b:Bs):(⟨a.toArray⟩:ByteArray)++(⟨b.toArray⟩:ByteArray)=⟨(a++b).toArray⟩:=by
 apply ByteArray.ext;rw[ByteArray.data_append];simp
attribute [go_sem] Ca uW ye
theorem nU(c:UInt8):(c.toNat:Int)<256:=by have:=c.toNat_lt;omega
theorem yy(c:UInt8):0<=(c.toNat:Int):=by omega
def letterB(c:UInt8):Bool:=decide (97<=c.toNat)&&decide (c.toNat<=122)
def digitB(c:UInt8):Bool:=decide (48<=c.toNat)&&decide (c.toNat<=57)
def fu(c:UInt8):Bool:=decide (32<c.toNat)&&decide (c.toNat<127)
def gu(c:UInt8):Bool:=decide (32<=c.toNat)&&decide (c.toNat<127)
def fixedN:Nat->Nat->Bs
 |0,_=>[]
 |n+1,v=>fixedN n (v/10)++[bw (48+v%10)]
theorem ew(n v:Nat):(fixedN n v).length=n:=by
 induction n generalizing v with
 |zero=>rfl
 |succ n ih=>simp[fixedN,ih]
attribute [go_sem] ew
structure Ch where
 left:Nat
 low:Nat
 high:Nat
def ch0:Ch:=⟨0,0,0⟩
def chNext(x:Ch)(c:UInt8):Option Ch:=
 let n:=c.toNat
 if 0<x.left then(if n<x.low∨x.high<n then Y else X ⟨x.left-1,128,191⟩)
 else if 32<=n/\n<128 then X ⟨0,128,191⟩
 else if 194<=n/\n<224 then X ⟨1,128,191⟩
 else if 224<=n/\n<240 then X ⟨2,if n=224 then 160 else 128,if n=237 then 159 else 191⟩
 else if 240<=n/\n<245 then X ⟨3,if n=240 then 144 else 128,if n=244 then 143 else 191⟩
 else Y
def chRun:Ch->Bs->Option Ch
 |x,[]=>X x
 |x,c::l=>match chNext x c with
  |some y=>chRun y l
  |none=>Y
def be(l:Bs):Bool:=match chRun ch0 l with
 |some x=>decide (x.left=0)
 |none=>false
structure cH where
 code:UInt8
 text:Bs
 deriving DecidableEq
structure ag where
 tag:Bs
 ind:Bs
 data:Bs
 subs:List cH
 deriving DecidableEq
structure aG where
 kind:UInt8
 level:UInt8
 fields:List ag
 deriving DecidableEq
def bJ(s:Bs):Bool:=decide (s.length=3)&&s.all digitB&& !decide (s=[48,48,48])
def fR(t:Bs):Bool:=decide (t.take 2=[48,48])
def iM(s:Bs):Bool:=decide (s.length=2)&&s.all gu
def dF(s:cH):Bool:=be s.text&&fu s.code
def wrongF(f:ag):Int:=
 if !bJ f.tag then 13
 else if fR f.tag then(if be f.data&&decide (f.ind=[])&&f.subs.isEmpty then 0 else 14)
 else if decide (f.data=[])&&iM f.ind&& !f.subs.isEmpty&&f.subs.all dF then 0 else 14
def aV(s:cH):Bs:=31::s.code::s.text
def fieldBytes(f:ag):Bs:=f.data++f.ind++f.subs.flatMap aV++[30]
def aR:List ag->Int
 |[]=>0
 |f::l=>if wrongF f=0 then aR l else wrongF f
def bU(l:List ag):Bool:=l.any λf=>decide (9999<(fieldBytes f).length)
def sizeOf(l:List ag):Nat:=l.foldl (λn f=>n+12+(fieldBytes f).length) 26
def wrongR(r:aG):Int:=
 if !letterB r.kind|| !letterB r.level then 12
 else if aR r.fields≠0 then aR r.fields
 else if bU r.fields||decide (999<r.fields.length)||decide (99999<sizeOf r.fields)then 2
 else 0
def dZ:Nat->List ag->Bs
 |_,[]=>[]
 |p,f::l=>f.tag++fixedN 4 (fieldBytes f).length++fixedN 5 p++dZ (p+(fieldBytes f).length) l
def di(l:List ag):Bs:=l.flatMap fieldBytes
def jJ(r:aG)(b base:Nat):Bs:=fixedN 5 b++[110,r.kind,r.level,32,97,50,50]++fixedN 5 base++[32,32,32,52,53,48,48]
def yq(r:aG):Bs:=
 jJ r (25+(dZ 0 r.fields).length+(di r.fields).length+1) (25+(dZ 0 r.fields).length)++dZ 0 r.fields++[30]++di r.fields++[29]
def cL(r:aG):Bs×Int:=if wrongR r=0 then(yq r,0)else([],wrongR r)
def CB(l:Bs)(a b:Nat):Bs:=(l.take b).drop a
theorem am{a b:Bool}(h:a=b):c4 (av a)=ax (av b):=by rw[h]
theorem aI{a b:Int}(h:a=b):c4 a=ax b:=by rw[h]
theorem wn(l:Bs)(k:Nat)(h:k<l):l.take (k+1)=l.take k++[l[k]]:=by
 rw[bO h]
theorem vC{a b:Bs}(h:a=b):c4 (S a)=ax (S b):=by rw[h]
theorem fB(b:List ag)(k:Nat)(c:k<b)(h:aR (b.take k)=0):aR b=if wrongF b[k]=0 then aR (b.drop (k+1))else wrongF b[k]:=by
 induction b generalizing k with
 |nil=>simp at c
 |cons f l ih=>
  cases k with
  |zero=>simp[aR]
  |succ k=>
   simp only[ex,aR]at h;by_cases hf:wrongF f=0
   .rw[if_pos hf]at h;simp only[aR,if_pos hf,eb,List.drop_succ_cons];exact ih k (by simpa using c) h
   rw[if_neg hf]at h;exact absurd h hf
theorem gH(b:List ag)(k:Nat)(d:k<b)(h:aR (b.take k)=0)(c:wrongF b[k]=0):aR (b.take (k+1))=0:=by
 have:=fB (b.take (k+1)) k (by simp;omega) (by rw[List.take_take];simpa[Nat.min_eq_left]using h);simp only[List.getElem_take,c,if_true]at this;rw[this];simp[aR]
theorem rA(b:List ag)(k:Nat)(c:k<b):sizeOf (b.take (k+1))=sizeOf (b.take k)+12+(fieldBytes b[k]).length:=by
 unfold sizeOf;rw[bO c,List.foldl_append];rfl
theorem tJ(b:List ag)(k:Nat)(c:k<b)(h:9999<(fieldBytes b[k]).length):bU b=true:=by
 unfold bU;rw[ci];exact⟨_,cP c,by simpa using h⟩
theorem pp(b:List ag)(k:Nat)(c:k<b)(h:bU (b.take k)=false)(d:¬9999<(fieldBytes b[k]).length):bU (b.take (k+1))=false:=by
 unfold bU at*;rw[bO c,List.any_append,h];simp;omega
open Go.RowKit
structure aF(b:Nat)(w w':aS):Prop where
 os:w'.os=w.os
 tape:w'.tape=w.tape
 output:w'.output=w.output
 size:w'.heap.size=w
 block:∀k,k≠b->w'.heap[k]?=w.heap[k]?
theorem aF.refl(b:Nat)(w:aS):aF b w w:=⟨rfl,rfl,rfl,rfl,λ_ _=>rfl⟩
theorem aF.trans{b:Nat}{x y z:aS}(h:aF b x y)(k:aF b y z):aF b x z:=
 ⟨k.os.trans h.os,k.tape.trans h.tape,k.output.trans h.output,k.size.trans h.size,λi c=>(k.block i c).trans (h.block i c)⟩
theorem aF.drew{b:Nat}{a w:aS}(h:aF b a w):aF b a w.drew:=⟨h.os,h.tape,h.output,h.size,h.block⟩
theorem aF.setCell{b:Nat}{a w:aS}(h:aF b a w)(o:Nat)(u:aT):aF b a (w.setCell ⟨b,o,Y⟩ u):=
 h.trans ⟨rfl,rfl,rfl,by simp[World.setCell],λk c=>e4 _ _ _ _ c⟩
theorem aF.below{b B:Nat}{w w':aS}(h:aF b w w')(c:B<=b):Below B w w':=
 ⟨h.os,h.tape,h.output,by rw[h.size];exact cu _,λk d=>h.block k (by omega)⟩
theorem aF.cell{b:Nat}{w w':aS}(h:aF b w w'){p:Addr}(c:p.block≠b):w'.cell? p=w.cell? p:=b6 (w:=w) (h.block p.block c)
theorem aF.frozen{b:Nat}{w w':aS}(h:aF b w w'){p:Addr}(c:p.block≠b):w'.frozen? p=w.frozen? p:=World.frozen?_of_block (w:=w) (h.block p.block c)
theorem btr{B b:Nat}{x y z:aS}(h:Below B x y)(k:Below b y z)(c:B<=b):Below B x z:=h.trans (k.mono c)
theorem aq{W w1:aS}(c:Bw W w1):(∀b o,b<W.heap.size->w1.cell? ⟨b,o,Y⟩=W.cell? ⟨b,o,Y⟩)/\(∀b o,b<W.heap.size->w1.frozen? ⟨b,o,Y⟩=W.frozen? ⟨b,o,Y⟩):=
 ⟨λb o h=>c.cell (p:=⟨b,o,Y⟩) h,λb o h=>c.frozen (p:=⟨b,o,Y⟩) h⟩
theorem bE{w:aS}{p:Addr}{v:aT}(h:w.cell? p=X v):p.block<w:=by
 unfold World.cell? at h;by_cases hp:p.block<w
 .exact hp
 rw[bd (by omega)]at h;cases h
theorem fV{w w':aS}(b:Bw w w'):∀p x,w.cell? p=X x->w'.cell? p=X x:=λp x h=>by rw[b.cell (bE h)];exact h
structure tC(w:aS)(b:Nat)(x:Ch):Prop where
 c0:w.cell? b=some (.int .i64 x.left)
 c1:w.cell? ⟨b,1,none⟩=some (.int .i64 x.low)
 c2:w.cell? ⟨b,2,none⟩=some (.int .i64 x.high)
 f0:w.frozen? b=false
 f1:w.frozen? ⟨b,1,none⟩=false
 f2:w.frozen? ⟨b,2,none⟩=false
def kI(x:Ch):Prop:=x.left<=3/\x.low<=255/\x.high<=255
theorem s9{x y:Ch}{c:UInt8}(b:kI x)(h:chNext x c=X y):kI y:=by
 unfold kI at*;unfold chNext at h;dsimp only at h;split at h
 .split at h
  .cases h
  cases h;exact⟨by simp;omega,by simp,by simp⟩
 split at h
 .cases h;simp
 split at h
 .cases h;simp
 split at h
 .cases h;refine⟨by simp,?_,?_⟩<;>simp<;>split<;>omega
 split at h
 .cases h;refine⟨by simp,?_,?_⟩<;>simp<;>split<;>omega
 cases h
def ni(x:Ch)(c:UInt8)(b:Nat)(w:aS)(e:Ending)(w':aS):Prop:=
 aF b w w'/\((Hid (chNext x c=Y)/\e=ax (av false))∨∃y,Hid (chNext x c=X y)/\e=ax (av true)/\tC w' b y)
theorem zo{x:Ch}{c:UInt8}{b:Nat}{w w':aS}{e:Ending}(f:aF b w w')(d:e=ax (av false))(h:chNext x c=Y):ni x c b w e w':=⟨f,.inl ⟨h,d⟩⟩
theorem eP{x:Ch}{c:UInt8}{b:Nat}{w w':aS}{e:Ending}{y:Ch}(h:chNext x c=X y)(g:aF b w w')(f:e=ax (av true))(d:tC w' b y):ni x c b w e w':=⟨g,.inr ⟨y,h,f,d⟩⟩
theorem B5{x:Ch}{c:UInt8}(h:0<x.left)(b:c<x.low∨x.high<c):chNext x c=Y:=by unfold chNext;simp only[if_pos h,if_pos b]
theorem C0{x:Ch}{c:UInt8}(h:0<x.left)(b:¬(c<x.low∨x.high<c)):chNext x c=X ⟨x.left-1,128,191⟩:=by unfold chNext;simp only[if_pos h,if_neg b]
theorem sW{x:Ch}{c:UInt8}(h:¬0<x.left)(b:32<=c.toNat/\c.toNat<128):chNext x c=X ⟨0,128,191⟩:=by unfold chNext;simp only[if_neg h,if_pos b]
theorem Ag{x:Ch}{c:UInt8}(h:¬0<x.left)(b:194<=c.toNat/\c.toNat<224):chNext x c=X ⟨1,128,191⟩:=by
 unfold chNext;simp only[if_neg h,if_neg (show¬(32<=c.toNat/\c.toNat<128) by omega),if_pos b]
theorem mS{x:Ch}{c:UInt8}(h:¬0<x.left)(b:224<=c.toNat/\c.toNat<240):chNext x c=X ⟨2,if c.toNat=224 then 160 else 128,if c.toNat=237 then 159 else 191⟩:=by
 unfold chNext;simp only[if_neg h,if_neg (show¬(32<=c.toNat/\c.toNat<128) by omega),if_neg (show¬(194<=c.toNat/\c.toNat<224) by omega),if_pos b]
theorem qG{x:Ch}{c:UInt8}(h:¬0<x.left)(b:240<=c.toNat/\c.toNat<245):chNext x c=X ⟨3,if c.toNat=240 then 144 else 128,if c.toNat=244 then 143 else 191⟩:=by
 unfold chNext;simp only[if_neg h,if_neg (show¬(32<=c.toNat/\c.toNat<128) by omega),if_neg (show¬(194<=c.toNat/\c.toNat<224) by omega),if_neg (show¬(224<=c.toNat/\c.toNat<240) by omega),if_pos b]
theorem lI{x:Ch}{c:UInt8}(h:¬0<x.left)(b:c.toNat<32∨(128<=c.toNat/\c.toNat<194)∨245<=c.toNat):chNext x c=Y:=by
 unfold chNext;simp only[if_neg h,if_neg (show¬(32<=c.toNat/\c.toNat<128) by omega),if_neg (show¬(194<=c.toNat/\c.toNat<224) by omega),if_neg (show¬(224<=c.toNat/\c.toNat<240) by omega),if_neg (show¬(240<=c.toNat/\c.toNat<245) by omega)]
theorem Cu{x:Ch}{c:UInt8}(h:¬0<x.left)(b:c.toNat=224):chNext x c=X ⟨2,160,191⟩:=by
 rw[mS h (by omega),if_pos (by omega),if_neg (by omega)]
theorem Ct{x:Ch}{c:UInt8}(h:¬0<x.left)(b:c.toNat=237):chNext x c=X ⟨2,128,159⟩:=by
 rw[mS h (by omega),if_neg (by omega),if_pos (by omega)]
theorem Cs{x:Ch}{c:UInt8}(h:¬0<x.left)(b:224<c.toNat/\c.toNat<240/\c.toNat≠237):chNext x c=X ⟨2,128,191⟩:=by
 rw[mS h (by omega),if_neg (by omega),if_neg (by omega)]
theorem Cr{x:Ch}{c:UInt8}(h:¬0<x.left)(b:c.toNat=240):chNext x c=X ⟨3,144,191⟩:=by
 rw[qG h (by omega),if_pos (by omega),if_neg (by omega)]
theorem Cq{x:Ch}{c:UInt8}(h:¬0<x.left)(b:c.toNat=244):chNext x c=X ⟨3,128,143⟩:=by
 rw[qG h (by omega),if_neg (by omega),if_pos (by omega)]
theorem Cp{x:Ch}{c:UInt8}(h:¬0<x.left)(b:240<c.toNat/\c.toNat<244):chNext x c=X ⟨3,128,191⟩:=by
 rw[qG h (by omega),if_neg (by omega),if_neg (by omega)]
theorem uQ(x:Ch)(l:Bs)(c:UInt8)(y:Ch)(h:chRun x l=X y):chRun x (l++[c])=chNext y c:=by
 induction l generalizing x with
 |nil=>simp only[chRun,bk]at h;subst h;simp only[List.nil_append,chRun];cases chNext x c<;>rfl
 |cons d l ih=>
  simp only[chRun,c3]at h ⊢;cases hd:chNext x d with
  |none=>rw[hd]at h;cases h
  |some z=>rw[hd]at h;exact ih z h
theorem uR(l:Bs)(k:Nat)(y:Ch)(b:k<l):∀x,chRun x (l.take k)=X y->chNext y l[k]=Y->chRun x l=Y:=by
 induction l generalizing k with
 |nil=>simp at b
 |cons d l ih=>
  intro x h hn;cases k with
  |zero=>simp only[List.take_zero,chRun,bk]at h;subst h;simp only[dz]at hn;simp only[chRun,hn]
  |succ k=>
   simp only[ex,chRun]at h ⊢;cases hd:chNext x d with
   |none=>rfl
   |some z=>rw[hd]at h;exact ih k (by simpa using b) z h (by simpa using hn)
theorem Ak(w:aS)(T:b2):tC (w.alloc (Obj.cells #[Value.int eg 0,Value.int eg 0,Value.int eg 0] T)) w ch0:=by
 constructor<;>go_simp<;>simp[ch0]
theorem Aj:kI ch0:=⟨by simp[ch0],by simp[ch0],by simp[ch0]⟩
theorem uD{l:Bs}{y:Ch}(h:chRun ch0 l=X y):be l=decide (y.left=0):=by simp[be,h]
theorem sw{l:Bs}(h:chRun ch0 l=Y):be l=false:=by simp[be,h]
def js(lo b:Nat)(w w':aS):Prop:=∀k,lo<=k->k<b->w'.heap[k]?=w.heap[k]?
theorem aW{B b:Nat}{w w':aS}(h:Below B w w')(d:b<=B):js 0 b w w':=λk _ c=>h.block k (by omega)
theorem js.trans{lo b:Nat}{x y z:aS}(h:js lo b x y)(k:js lo b y z):js lo b x z:=λi c d=>(k i c d).trans (h i c d)
theorem js.mono{lo c e d:Nat}{w w':aS}(h:js lo c w w')(f:lo<=e)(g:d<=c):js e d w w':=λk a b=>h k (by omega) (by omega)
theorem aF.kept{b lo c:Nat}{w w':aS}(h:aF b w w')(f:b<lo∨c<=b):js lo c w w':=λk d e=>h.block k (by omega)
def aL(lo f:Nat)(w:aS)(v:aT)(n:Nat)(c:List aT):Prop:=
 ∃a e,v=ay a n e/\(c≠[]->∃b d,a=X ⟨b,d,Y⟩/\lo<=b/\b<f/\∀j x,c[j]?=X x->w.cell? ⟨b,d+j,Y⟩=X x)
theorem aL.kept{lo c:Nat}{w w':aS}{v:aT}{n:Nat}{d:List aT}(h:aL lo c w v n d)(k:js lo c w w'):aL lo c w' v n d:=by
 obtain⟨a,g,p,h⟩:=h;refine⟨a,g,p,λm=>?_⟩;obtain⟨b,r,l,e,f,i⟩:=h m;exact⟨b,r,l,e,f,λj x q=>by rw[b6 (w:=w) (k b e f)];exact i j x q⟩
theorem aL.mono{lo d f e:Nat}{w:aS}{v:aT}{n:Nat}{c:List aT}(h:aL lo d w v n c)(p:f<=lo)(q:d<=e):aL f e w v n c:=by
 obtain⟨a,g,l,h⟩:=h;refine⟨a,g,l,λk=>?_⟩;obtain⟨b,m,j,r,s,i⟩:=h k;exact⟨b,m,j,by omega,by omega,i⟩
def subCells(s:cH):List aT:=[J az s.code,S s.text]
def aE(lo c:Nat)(w:aS)(v:aT)(b:List cH):Prop:=aL lo c w v b (b.flatMap subCells)
theorem aE.kept{lo b:Nat}{w w':aS}{v:aT}{c:List cH}(h:aE lo b w v c)(k:js lo b w w'):aE lo b w' v c:=aL.kept h k
theorem aE.mono{lo b d c:Nat}{w:aS}{v:aT}{e:List cH}(h:aE lo b w v e)(f:d<=lo)(g:b<=c):aE d c w v e:=aL.mono h f g
def fieldV(f:ag)(d:aT):aT:=.agg #[S f.tag,S f.ind,S f.data,d]
def fieldCells(p:ag×aT):List aT:=[S p.1.tag,S p.1.ind,S p.1.data,p.2]
def ah(lo c:Nat)(w:aS)(v:aT)(b:List ag):Prop:=
 ∃ps:List (ag×aT),ps.map (·.1)=b/\(∀p∈ps,aE lo c w p.2 p.1.subs)/\aL lo c w v b (ps.flatMap fieldCells)
theorem ah.kept{lo b:Nat}{w w':aS}{v:aT}{c:List ag}(h:ah lo b w v c)(k:js lo b w w'):ah lo b w' v c:=by
 obtain⟨ps,d,e,f⟩:=h;exact⟨ps,d,λp g=>(e p g).kept k,f.kept k⟩
theorem ah.mono{lo e g f:Nat}{w:aS}{v:aT}{b:List ag}(h:ah lo e w v b)(c:g<=lo)(d:e<=f):ah g f w v b:=by
 obtain⟨ps,i,j,k⟩:=h;exact⟨ps,i,λp l=>(j p l).mono c d,k.mono c d⟩
def eG(r:aG)(x:aT):aT:=.agg #[J az r.kind,J az r.level,x]
def eK(lo b:Nat)(w:aS)(v:aT)(r:aG):Prop:=∃x,v=eG r x/\ah lo b w x r.fields
theorem eK.kept{lo b:Nat}{w w':aS}{v:aT}{r:aG}(h:eK lo b w v r)(k:js lo b w w'):eK lo b w' v r:=by
 obtain⟨x,c,d⟩:=h;exact⟨x,c,d.kept k⟩
theorem eK.mono{lo b d c:Nat}{w:aS}{v:aT}{r:aG}(h:eK lo b w v r)(e:d<=lo)(f:b<=c):eK d c w v r:=by
 obtain⟨x,g,i⟩:=h;exact⟨x,g,i.mono e f⟩
theorem cE{α:Type}(f:α->List aT)(k:Nat)(b:∀a,(f a).length=k)(l:List α)(i:Nat)(c:i<l)(j:Nat)(d:j<k):
 (l.flatMap f)[i*k+j]?=(f l[i])[j]?:=by
 induction l generalizing i with
 |nil=>simp at c
 |cons a l ih=>
  rw[cx];cases i with
  |zero=>rw[List.getElem?_append_left (by rw[b];omega)];simp
  |succ i=> rw[List.getElem?_append_right (by rw[b,Nat.succ_mul];omega),b];rw[show(i+1)*k+j-k=i*k+j from by rw[Nat.succ_mul];omega];rw[ih i (by simpa using c)];simp
theorem aE.sub{lo j:Nat}{w:aS}{v:aT}{c:List cH}(h:aE lo j w v c)(i:Nat)(f:i<c):
 ∃b d e,v=ay (X ⟨b,d,Y⟩) c e/\lo<=b/\b<j/\w.cell? ⟨b,d+i*2,Y⟩=X (J az c[i].code.toNat)/\w.cell? ⟨b,d+i*2+1,Y⟩=X (S c[i].text):=by
 obtain⟨a,e,t,h⟩:=h;have r:c.flatMap subCells≠[]:=by
  cases c with
  |nil=>simp at f
  |cons s l=>simp[subCells]
 obtain⟨b,d,q,n,p,g⟩:=h r;subst q;have k:=cE subCells 2 (λ_=>rfl) c i f 0 (by omega);have m:=cE subCells 2 (λ_=>rfl) c i f 1 (by omega);exact⟨b,d,e,t,n,p,g _ _ k,by rw[ch];exact g _ _ m⟩
theorem bf(w:aS)(o:Obj)(b i:Nat)(h:b<w):(w.alloc o).cell? ⟨b,i,Y⟩=w.cell? ⟨b,i,Y⟩:=
 b6 (w:=w) (Below.heap_alloc w o b h)
theorem bS(f:ag)(k:Nat):(f.data++f.ind++(f.subs.take k).flatMap aV).length+1<=(fieldBytes f).length:=by
 have:((f.subs.take k).flatMap aV).length<=(f.subs.flatMap aV).length:=by
  conv=>rhs;rw[<- List.take_append_drop k f.subs]
  rw[eQ,b0];omega
 simp only[fieldBytes,b0,List.length_singleton]at*;omega
theorem kD{α:Type}(g:α->Bs)(l:List α)(k:Nat)(h:k<l):(l.take (k+1)).flatMap g=(l.take k).flatMap g++g l[k]:=by
 rw[bO h,eQ];simp
theorem ah.field{lo k:Nat}{w:aS}{v:aT}{c:List ag}(h:ah lo k w v c)(i:Nat)(x:i<c):
 ∃b e j d,v=ay (X ⟨b,e,Y⟩) c j/\lo<=b/\b<k/\w.cell? ⟨b,e+i*4,Y⟩=X (S c[i].tag)/\w.cell? ⟨b,e+i*4+1,Y⟩=X (S c[i].ind)/\
  w.cell? ⟨b,e+i*4+2,Y⟩=X (S c[i].data)/\w.cell? ⟨b,e+i*4+3,Y⟩=X d/\aE lo k w d c[i].subs:=by
 obtain⟨ps,rfl,C,a,j,D,h⟩:=h;have f:i<ps:=by simpa using x
 have y:ps.flatMap fieldCells≠[]:=by
  cases ps with
  |nil=>simp at f
  |cons s l=>simp[fieldCells]
 obtain⟨b,e,u,r,t,g⟩:=h y;subst u;have m:=cE fieldCells 4 (λ_=>rfl) ps i f 0 (by omega);have n:=cE fieldCells 4 (λ_=>rfl) ps i f 1 (by omega);have p:=cE fieldCells 4 (λ_=>rfl) ps i f 2 (by omega);have q:=cE fieldCells 4 (λ_=>rfl) ps i f 3 (by omega);have A:=C _ (cP f);simp only[List.getElem_map];exact⟨b,e,j,ps[i].2,D,r,t,g _ _ m,by rw[ch];exact g _ _ n,by rw[ch];exact g _ _ p,by rw[ch];exact g _ _ q,A⟩
theorem ah.shape{lo d:Nat}{w:aS}{v:aT}{c:List ag}(h:ah lo d w v c):∃a b,v=ay a c b:=by
 obtain⟨_,_,_,a,b,e,_⟩:=h;exact⟨a,b,e⟩
def br(b:List ag):Prop:=b.length<=1000000/\∀f∈b,(fieldBytes f).length<=1000000
theorem cr(f:ag):f.subs<=(fieldBytes f).length:=by
 have:∀l:List cH,l<=(l.flatMap aV).length:=by
  intro l;induction l with
  |nil=>simp
  |cons s l ih=>rw[cx,b0];simp only[aV,b7];omega
 have:=this f.subs;simp only[fieldBytes,b0];omega
theorem gG{l:List ag}(h:aR l=0):∀f∈l,wrongF f=0:=by
 induction l with
 |nil=>simp
 |cons g l ih=>
  simp only[aR]at h;intro f b;by_cases hg:wrongF g=0
  .rw[if_pos hg]at h;rcases List.mem_cons.1 b with rfl|b
   .exact hg
   exact ih h f b
  rw[if_neg hg]at h;exact absurd h hg
theorem tD{f:ag}(h:wrongF f=0):bJ f.tag=true:=by
 cases ht:bJ f.tag with
 |true=>rfl
 |false=>simp[wrongF,ht]at h
theorem qC(p:Nat)(l:List ag)(f:ag):dZ p (l++[f])=dZ p l++(f.tag++fixedN 4 (fieldBytes f).length++fixedN 5 (p+(di l).length)):=by
 induction l generalizing p with
 |nil=>simp[dZ,di]
 |cons g l ih=> simp only[c3,dZ,ih,di,cx,b0];simp[ch]
theorem sQ(l:List ag)(f:ag):di (l++[f])=di l++fieldBytes f:=by simp[di]
theorem kf(l:List ag):sizeOf l=26+12*l+(di l).length:=by
 have:∀(l:List ag)n,l.foldl (λn f=>n+12+(fieldBytes f).length) n=n+12*l+(di l).length:=by
  intro l;induction l with
  |nil=>simp[di]
  |cons g l ih=>intro n;rw[List.foldl_cons,ih];simp[di];omega
 exact this l 26
theorem iA{l:Bs}(h:bJ l=true):l.length=3:=by simp[bJ]at h;exact h.1.1
structure C5(r:aG):Prop where
 kind:letterB r.kind=true
 level:letterB r.level=true
 fields:∀f∈r.fields,wrongF f=0
 long:∀f∈r.fields,(fieldBytes f).length<=9999
 many:r.fields.length<=999
 size:26+12*r.fields+(di r.fields).length<=99999
theorem yV{r:aG}(h:wrongR r=0):C5 r:=by
 unfold wrongR at h;split at h
 .simp at h
 rename_i b;split at h
 .rename_i d;exact absurd h d
 rename_i d;split at h
 .simp at h
 rename_i e;simp only[c7,b4,not_or,Bool.not_eq_false,decide_eq_true_eq,Bool.not_eq_true]at b e;have g:aR r.fields=0:=by omega
 refine⟨b.1,b.2,gG g,?_,by omega,by rw[<- kf];omega⟩;intro f i;have c:=e.1.1;unfold bU at c;rw[List.any_eq_false]at c;simpa using c f i
end
section
open Go.RowKit Go.Maps Go.WideShapes
open Go.ChangeMaps (putKey delKey notKey)
set_option linter.unusedSectionVars false
def heldR(v:aT):Option (DataW aT×List MemPlace):=X (.held v,[])
structure eJ(P:da)(kt:b2)(K:Type)where
 kv:K->aT
 kl:K->Lit
 ok:K->Prop
 keyed:Keyed P kt
 key:∀k,ok k->keyOf P kt (kv k)=some (kl k)
 inj:∀a b,kv a=kv b->a=b
section
variable {P:da} {kt:b2} {K:Type} [DecidableEq K] (B:eJ P kt K)
theorem eJ.lit_inj{a b:K}(c:B.ok a)(d:B.ok b)(h:B.kl a=B.kl b):a=b:=
 B.inj _ _ (B.keyed.inj (B.key a c) (h▸B.key b d))
def eJ.entries(l:List (K×aT)):List (Lit×DataW aT):=l.map λp=>(B.kl p.1,.held p.2)
def an(w:aS)(b:Nat)(l:List (K×aT)):Prop:=
 ∃c,w.ownsMap P kt heldR b l (.map c)/\c.Perm (B.entries l)/\∀p∈l,B.ok p.1
def lookL(l:List (K×aT))(k:K):Option aT:=(l.find? λp=>decide (p.1=k)).map (·.2)
def cK(l:List (K×aT))(k:K):List (K×aT):=l.filter λp=> !decide (p.1=k)
def putL(l:List (K×aT))(k:K)(v:aT):List (K×aT):=cK l k++[(k,v)]
variable {B}
theorem an.lt{w:aS}{b:Nat}{l:List (K×aT)}(h:an B w b l):b<w:=by obtain⟨d,c,_⟩:=h;exact c.lt
theorem an.ok{w:aS}{b:Nat}{l:List (K×aT)}(h:an B w b l):∀p∈l,B.ok p.1:=by obtain⟨d,_,_,c⟩:=h;exact c
theorem an.made(w:aS):an B (w.alloc (.map #[] 0)) w []:=⟨[],World.ownsMap_made _ _ _ _,.refl _,λp b=>by cases b⟩
theorem an.block{w w':aS}{b:Nat}{l:List (K×aT)}(h:an B w b l)(j:w'.heap[b]?=w.heap[b]?):an B w' b l:=by
 obtain⟨d,⟨e,c,f,g⟩,i⟩:=h;exact⟨d,⟨e,c,j.trans f,g⟩,i⟩
theorem an.alloc{w:aS}{b:Nat}{l:List (K×aT)}(h:an B w b l)(o:Obj):an B (w.alloc o) b l:=h.block (Below.heap_alloc w o b h.lt)
theorem an.drew{w:aS}{b:Nat}{l:List (K×aT)}(h:an B w b l):an B w.drew b l:=h.block rfl
theorem an.setCell{w:aS}{b:Nat}{l:List (K×aT)}(h:an B w b l){a:Addr}(c:b≠a.block)(u:aT):an B (w.setCell a u) b l:=h.block (e4 _ _ _ _ c)
theorem an.perm{w:aS}{b:Nat}{l d:List (K×aT)}(h:an B w b l)(c:l.Perm d):an B w b d:=by
 obtain⟨e,f,g,i⟩:=h;exact⟨e,c.length_eq▸f,g.trans (c.map _),λp j=>i p (c.mem_iff.2 j)⟩
theorem an.nodup{w:aS}{b:Nat}{l:List (K×aT)}(h:an B w b l):(l.map (·.1)).Nodup:=by
 obtain⟨j,f,g,m⟩:=h;obtain⟨k,e,i,_⟩:=f.entries B.keyed;cases e;have c:(B.entries l).Pairwise (λp q=>p.1≠q.1):=(g.pairwise_iff (λ{_ _}d=>Ne.symm d)).1 i;unfold eJ.entries at c;rw[bY]at c;rw[List.Nodup,bY];exact c.imp λ{a b}d e=>d (congrArg B.kl e)
theorem bC{l:List (K×aT)}(hn:(l.map (·.1)).Nodup){k:K}{v:aT}:lookL l k=X v↔(k,v)∈l:=by
 induction l with
 |nil=>simp[lookL]
 |cons p l ih=>
  rw[b3,List.nodup_cons]at hn;have ih:=ih hn.2;unfold lookL at ih ⊢;rw[cm];by_cases e:p.1=k
  .simp only[e,decide_true,Option.map_some,bk,bl];constructor
   .rintro rfl;exact .inl (by rw[<- e])
   rintro(h|h)
   .rw[<- h]
   exact absurd (List.mem_map.2 ⟨_,h,e.symm⟩) hn.1
  simp only[e,decide_false,bl];rw[ih];constructor
  .exact .inr
  rintro(h|h)
  .exact absurd (by rw[<- h]) e
  exact h
theorem ix{l:List (K×aT)}{k:K}:lookL l k=Y↔∀v,(k,v)∉l:=by
 unfold lookL;rw[Option.map_eq_none_iff,cb];constructor
 .intro h v b;exact h _ b (by simp)
 intro h p c e;simp at e;exact h p.2 (by rw[<- e];exact c)
theorem an.at_some{w:aS}{b:Nat}{l:List (K×aT)}{c:List (Lit×DataW aT)}(d:w.ownsMap P kt heldR b l (.map c))(f:c.Perm (B.entries l))(hn:(l.map (·.1)).Nodup){k:K}(h:B.ok k){v:aT}(i:lookL l k=X v)(z:DataW aT):
 (DataW.map c).atKey (B.kl k) z=.held v:=by
 obtain⟨j,e,g,_⟩:=d.entries B.keyed;cases e;exact WideAt.atKey_mem z (B.keyed.key (B.key k h)) g (f.mem_iff.2 (List.mem_map.2 ⟨_,(bC hn).1 i,rfl⟩))
theorem an.at_none{b:List (Lit×DataW aT)}{l:List (K×aT)}(h:b.Perm (B.entries l))(i:∀p∈l,B.ok p.1){k:K}(j:B.ok k)(n:lookL l k=Y)(z:DataW aT):
 (DataW.map b).atKey (B.kl k) z=z:=by
 unfold DataW.atKey;have:b.find? (λp=>p.1.sameKey (B.kl k))=Y:=by rw[cb];intro p m e;obtain⟨q,d,f⟩:=List.mem_map.1 (h.mem_iff.1 m);have c:=er e;rw[<- f]at c;have g:=B.lit_inj (i q d) j c;exact ix.1 n q.2 (by rw[<- g];exact d)
 simp[this]
theorem an.look_ok{w:aS}{b:Nat}{l:List (K×aT)}(h:an B w b l){t e:b2}(m:P.underlying t=X (.map kt e)){z:aT}(n:(zeroValue e).run P w=.ok z w)(k:K)(d:B.ok k):
 (Instr.lookup t (aC (X b)) (B.kv k) true).run P w=.ok (.tuple #[(lookL l k).getD z,av (lookL l k).isSome]) w:=by
 have hn:=h.nodup;obtain⟨p,g,f,i⟩:=h;obtain⟨v,ps,j,c⟩:=g.look_ok B.keyed m n (zd:=.held z) (zp:=[]) rfl (B.key k d);rw[j];cases hl:lookL l k with
 |none=> rw[an.at_none f i d hl]at c;simp only[heldR,bk,cd,cc]at c;rw[c.1,Maps.has_false_of_atKey (λz=>an.at_none f i d hl z)];rfl
 |some x=> rw[an.at_some g f hn d hl]at c;simp only[heldR,bk,cd,cc]at c;rw[c.1,dy (λz=>an.at_some g f hn d hl z)];rfl
theorem an.look{w:aS}{b:Nat}{l:List (K×aT)}(h:an B w b l){t e:b2}(m:P.underlying t=X (.map kt e)){z:aT}(n:(zeroValue e).run P w=.ok z w)(k:K)(d:B.ok k):
 (Instr.lookup t (aC (X b)) (B.kv k) false).run P w=.ok ((lookL l k).getD z) w:=by
 have hn:=h.nodup;obtain⟨p,f,g,i⟩:=h;obtain⟨v,ps,j,c⟩:=f.lookup B.keyed m n (zd:=.held z) (zp:=[]) rfl (B.key k d);rw[j];cases hl:lookL l k with
 |none=> rw[an.at_none g i d hl]at c;simp only[heldR,bk,cd,cc]at c;rw[c.1];rfl
 |some x=> rw[an.at_some f g hn d hl]at c;simp only[heldR,bk,cd,cc]at c;rw[c.1];rfl
theorem an.size{b:List (Lit×DataW aT)}{l:List (K×aT)}(c:b.Perm (B.entries l)):Maps.size (DataW.map b)=l:=by
 show b.length=_;rw[c.length_eq];unfold eJ.entries;simp
theorem kW{l:List (K×aT)}(c:∀p∈l,B.ok p.1){k:K}(b:B.ok k):(B.entries l).filter (notKey (B.kl k))=B.entries (cK l k):=by
 induction l with
 |nil=>rfl
 |cons p l ih=>
  have ih:=ih λq g=>c q (b8 _ g);have f:=c p bs;show List.filter _ ((B.kl p.1,DataW.held p.2)::B.entries l)=_;unfold cK;rw[cQ,cQ];by_cases e:p.1=k
  .rw[if_neg (by rw[Maps.notKey_iff (B.keyed.key (B.key k b))];simp[e]),if_neg (by simp[e])];exact ih
  rw[if_pos (by rw[Maps.notKey_iff (B.keyed.key (B.key k b))];exactλd=>e (B.lit_inj f b d)),if_pos (by simp[e]),ih];rfl
theorem zc{b:List (Lit×DataW aT)}{l:List (K×aT)}(d:b.Perm (B.entries l))(e:∀p∈l,B.ok p.1){k:K}(f:B.ok k)(v:aT):
 (putKey (B.kl k) (.held v) b).Perm (B.entries (putL l k v)):=by
 unfold putKey putL;refine(insert_perm _ _).trans ?_;have c:=d.filter (notKey (B.kl k));rw[kW e f]at c;refine(c.cons _).trans ?_;unfold eJ.entries;rw[List.map_append];exact(List.perm_append_comm (l₁:=[(B.kl k,DataW.held v)]) (l₂:=List.map _ (cK l k)))
theorem an.of_owns{w:aS}{b n:Nat}{l:List (K×aT)}{d:List (Lit×DataW aT)}(j:w.ownsMap P kt heldR b n (.map d))(g:d.Perm (B.entries l))(k:∀p∈l,B.ok p.1):an B w b l:=by
 refine⟨d,?_,g,k⟩;obtain⟨f,c,h,i,m,e⟩:=j;refine⟨f,c,h,i,?_,e⟩;have:d=f.size:=by injection e with e;rw[e,length_sorted];simp
 have q:d.length=l:=by rw[g.length_eq];unfold eJ.entries;simp
 omega
theorem an.put_of{w':aS}{b n:Nat}{l:List (K×aT)}{d:List (Lit×DataW aT)}(g:d.Perm (B.entries l))(e:∀p∈l,B.ok p.1){k:K}(f:B.ok k)(v:aT)(h:w'.ownsMap P kt heldR b n ((DataW.map d).put (B.kl k) (.held v))):an B w' b (putL l k v):=by
 rw[DataW.put_eq]at h;refine an.of_owns h (zc g e f v) λp c=>?_;unfold putL cK at c;rcases List.mem_append.1 c with c|c
 .exact e p (List.mem_filter.1 c).1
 rw[List.mem_singleton.1 c];exact f
theorem an.del_of{w':aS}{b n:Nat}{l:List (K×aT)}{c:List (Lit×DataW aT)}(f:c.Perm (B.entries l))(d:∀p∈l,B.ok p.1){k:K}(g:B.ok k)(h:w'.ownsMap P kt heldR b n ((DataW.map c).del (B.kl k))):an B w' b (cK l k):=by
 rw[DataW.del_eq]at h;refine an.of_owns h ?_ λp i=>d p (List.mem_filter.1 i).1;unfold delKey;have e:=f.filter (notKey (B.kl k));rw[kW d g]at e;exact e
variable (w:aS) {ops:Array Oper} {rest:List Oper} {o:Oper} {a:Act} {Q:Exit->Act->aS->Prop}
theorem dm(f:o.guard=Y)(m x:e5)(t:b2)(j:o.op=Op.lookup t m x true)(e:b2)(p:P.underlying t=X (.map kt e)){z:aT}(r:(zeroValue e).run P w=.ok z w)
 (b:Nat)(l:List (K×aT))(i:a.eval m=aC (X b))(h:an B w b l)(k:K)(g:B.ok k)(q:a.eval x=B.kv k)
 (c:wpList P ops Q rest (a.put o.dst (.tuple #[(lookL l k).getD z,av (lookL l k).isSome])) w):wpList P ops Q (o::rest) a w:=by
 refine wpList_plain f λs d=>?_;have n:=h.look_ok p r k g;unfold Oper.wp;simp[execOp,j,i,q,n,c6];exact d _ _ c
theorem ve(p:o.guard=Y)(m x v:e5)(t:b2)(r:o.op=Op.mapUpdate t m x v)(e:b2)(s:P.underlying t=X (.map kt e))
 (b:Nat)(l:List (K×aT))(q:a.eval m=aC (X b))(h:an B w b l)(hn:l<maxLen)(k:K)(c:B.ok k)(A:a.eval x=B.kv k)(y:aT)(u:a.eval v=y)
 (n:∀w',an B w' b (putL l k y)->w.mapTurned w' b->wpList P ops Q rest (a.put o.dst undef) w'):wpList P ops Q (o::rest) a w:=by
 obtain⟨C,d,f,g⟩:=h;exact wpList_mapUpdate_in w p m x v t r kt e B.keyed s heldR b _ _ q d hn (B.kv k) y (B.kl k) A u (B.key k c) (.held y) [] rfl λw' i j=>n w' (an.put_of f g c y i) j
def cJ(B:eJ P kt K)(w:aS)(b r:Nat)(l left:List (K×aT)):Prop:=
 ∃c f d,w.ranges P kt heldR b r l (.map c) f d/\c.Perm (B.entries l)/\(∀p∈l,B.ok p.1)/\left.Sublist l/\(∀p∈l,f (B.kl p.1)=true↔p∈left)/\∀z,f z=true->∃p∈left,B.kl p.1=z
theorem cJ.map{w:aS}{b r:Nat}{l left:List (K×aT)}(h:cJ B w b r l left):an B w b l:=by
 obtain⟨c,f,i,d,e,g,_⟩:=h;exact⟨c,d.owns,e,g⟩
theorem cJ.lt{w:aS}{b r:Nat}{l left:List (K×aT)}(h:cJ B w b r l left):r<w:=by
 obtain⟨e,f,d,c,_⟩:=h;exact c.lt
theorem cJ.ne{w:aS}{b r:Nat}{l left:List (K×aT)}(h:cJ B w b r l left):r≠b:=by
 obtain⟨e,f,d,c,_⟩:=h;exact c.ne
theorem cJ.kept{w w':aS}{b r:Nat}{l left:List (K×aT)}(h:cJ B w b r l left)(s:w'.heap[b]?=w.heap[b]?)(t:w'.heap[r]?=w.heap[r]?):cJ B w' b r l left:=by
 obtain⟨g,f,d,⟨e,c1,u,v,c,i,j,k,m,n,p⟩,q⟩:=h;exact⟨g,f,d,⟨e,c1,u,v,c,s.trans i,j,k,m,t.trans n,p⟩,q⟩
theorem nS(x:o.guard=Y)(m:e5)(t:b2)(C:o.op=Op.range t m)(e:b2)(E:P.underlying t=X (.map kt e))
 (b:Nat)(l:List (K×aT))(A:a.eval m=aC (X b))(h:an B w b l)
 (v:∀w',cJ B w' b w l l->Bw w w'->w'.heap.size=w+1->wpList P ops Q rest (a.put o.dst (.pointer w)) w'):wpList P ops Q (o::rest) a w:=by
 have hn:=h.nodup;obtain⟨r,g,f,i⟩:=h;refine wpList_range_own w x m t C kt e B.keyed E heldR b _ _ A g λw' s c u=>v w' ⟨r,_,_,s,f,i,List.Sublist.refl _,λp d=>?_,λz j=>?_⟩ ⟨c.os,c.tape,c.output,c.size,λk y=>c.block k y (by simp)⟩ u
 .refine⟨λ_=>d,λ_=>?_⟩;exact dy λz=>an.at_some g f hn (i p d) ((bC hn).2 d) z
 rw[Maps.has_eq,ci]at j;obtain⟨q,D,e⟩:=j;obtain⟨p,d,n⟩:=List.mem_map.1 (f.mem_iff.1 D);exact⟨p,d,by rw[<- er e,<- n]⟩
theorem iB{l:List (K×aT)}(hn:(l.map (·.1)).Nodup){p q:K×aT}(f:p∈l):q∈cK l p.1↔q∈l/\q≠p:=by
 unfold cK;rw[b9];constructor
 .rintro⟨h,b⟩;simp at b;exact⟨h,λe=>b (by rw[e])⟩
 rintro⟨h,b⟩;refine⟨h,?_⟩;simp only[b4,decide_eq_false_iff_not];intro e;have c:=(bC hn).2 h;have d:=(bC hn (k:=p.1) (v:=p.2)).2 f;rw[e,d]at c;injection c with c
 exact b (dx e c.symm)
theorem zX{l:List (K×aT)}{p:K×aT}(c:p∈l):(cK l p.1).length<l:=by
 unfold cK;have b:=b5 (λq:K×aT=> !decide (q.1=p.1)) l;rcases cz (l.filter λq=> !decide (q.1=p.1)).length l with h|h
 .exact h
 have:=List.length_filter_eq_length_iff.1 (Nat.le_antisymm b h) p c;simp at this
theorem qT(hg:o.guard=Y)(H:e5)(aa:o.op=Op.next H false)(b r:Nat)(l left:List (K×aT))(a8:a.eval H=.pointer r)(h:cJ B w b r l left)
 (a4:left=[]->wpList P ops Q rest (a.put o.dst (.tuple #[av false])) w)
 (a5:∀(p:K×aT)(w':aS),p∈left->B.ok p.1->cJ B w' b r l (cK left p.1)->(cK left p.1).length<left->aF r w w'->
  (Instr.entry (.pointer r)).run P w'=.ok (.tuple #[B.kv p.1,p.2]) w'->wpList P ops Q rest (a.put o.dst (.tuple #[av true,B.kv p.1,p.2])) w'):
 wpList P ops Q (o::rest) a w:=by
 have hn:=h.map.nodup;obtain⟨es,f,a0,I,M,D,s,N,O⟩:=h;refine wpList_next_ranges w hg H aa kt B.keyed heldR (λv:aT=>v) (λv:aT=>v) (λkey W _=>⟨key,rfl⟩) (λv y _=>⟨v,rfl⟩) b r _ _ f a0 a8 I (λh0 hl=>a4 ?_) λx c W y w' a3 F a9 T a6 ac ao t ad a7=>?_
 .rcases left with _|⟨p,left⟩
  .rfl
  have:=(N p (s.subset bs)).2 bs;rw[hl]at this;cases this
 obtain⟨p,g,e⟩:=O W a9;have G:=s.subset g;have u:=D p G;have al:x=B.kv p.1:=B.keyed.inj F (by rw[<- e];exact B.key _ u);have hc:p.2=c:=by have E:=a6 (.held undef);rw[<- e,an.at_some I.owns M hn u ((bC hn (k:=p.1) (v:=p.2)).2 G)]at E;simp only[heldR,bk]at T;rw[<- T]at E;injection E
 have R:(left.map (·.1)).Nodup:=hn.sublist (s.map _);subst al;subst hc;refine a5 p w' g u ⟨es,_,a3,ac,M,D,(e0).trans s,λq i=>?_,λz A=>?_⟩ (zX g) ⟨t.os,t.tape,t.output,ad,λk hk=>?_⟩ a7
 .rw[iB R g,<- N q i];simp only[bB,b4];constructor
  .rintro⟨C,n⟩;refine⟨C,λd=>?_⟩;rw[d,e,ej (B.keyed.key F)]at n;cases n
  rintro⟨C,n⟩;refine⟨C,Maps.sameKey_ne λd=>n ?_⟩;rw[<- e]at d;have m:=B.lit_inj (D q i) u d;have j:=(bC hn (k:=q.1) (v:=q.2)).2 i;have a2:=(bC hn (k:=p.1) (v:=p.2)).2 G;rw[m,a2]at j;injection j with j
  exact dx m j.symm
 .simp only[bB,b4]at A;obtain⟨q,i,d⟩:=O z A.1;refine⟨q,(iB R g).2 ⟨i,λm=>?_⟩,d⟩;rw[<- d,m,e,ej (B.keyed.key F)]at A;cases A.2
 by_cases hk2:k<w
 .exact t.block k hk2 (by simpa using hk)
 rw[bd (by omega),bd (by omega)]
theorem eA{w w':aS}{b:Nat}(h:w.mapTurned w' b):aF b w w':=by
 have d:=h.grown;have f:w'.heap.size=w:=by obtain⟨i,c,j,g,_,rfl⟩:=h;simp[Go.ChangeMaps.setBlock]
 refine⟨d.os,d.tape,d.output,f,λk e=>?_⟩;by_cases h2:k<w
 .exact d.block k h2 (by simpa using e)
 rw[bd (by omega),bd (by omega)]
end
end
section
open Go.RowKit
def fa(s:ByteArray):Nat->List Nat->Prop
 |pos,[]=>pos=s.size
 |pos,c::rs=>pos<s.size/\(cs s pos).1=c/\pos<pos+(cs s pos).2/\pos+(cs s pos).2<=s.size/\fa s (pos+(cs s pos).2) rs
def runesF:Nat->Bs->List Nat
 |0,_=>[]
 |f+1,l=>if l=[]then[]else(dd l).1::runesF f (l.drop (dd l).2)
def runesR(l:Bs):List Nat:=runesF l l
theorem ep(l:Bs)(b:Nat):cs ⟨l.toArray⟩ b=dd (l.drop b):=by
 rw[<- Lib.decodeL_drop]
theorem pJ(l:Bs):∀(f b:Nat),b<=l->l-b<=f->fa ⟨l.toArray⟩ b (runesF f (l.drop b)):=by
 intro f;induction f with
 |zero=>intro b d g;show b=l;omega
 |succ f ih=>
  intro b d g;unfold runesF;by_cases hp:b=l
  .rw[if_pos (by rw[hp];simp)];exact hp
  have c:l.drop b≠[]:=by intro e;have:=congrArg List.length e;simp at this;omega
  rw[if_neg c];have i:=Lib.decodeL_width (l.drop b);have h:=Lib.decodeL_le (l.drop b) c;rw[List.length_drop]at h;refine⟨by show b<l;omega,by rw[ep],by rw[ep];omega,by rw[ep];show _<=l.length;omega,?_⟩;rw[ep,List.drop_drop];exact ih _ (by omega) (by omega)
theorem eF(l:Bs):fa ⟨l.toArray⟩ 0 (runesR l):=by
 have:=pJ l l 0 (e6 _) (by omega);simpa[runesR]using this
theorem tW(f:Nat)(l:Bs):(runesF f l).length<=l:=by
 induction f generalizing l with
 |zero=>exact e6 _
 |succ f ih=>
  unfold runesF;split
  .simp
  rename_i b;have d:=Lib.decodeL_width l;have:=ih (l.drop (dd l).2);have c:0<l.length:=List.length_pos_iff.2 b;simp only[b7,List.length_drop]at*;omega
theorem gg(l:Bs):(runesR l).length<=l:=tW _ _
theorem wM(f:Nat)(l:Bs):∀c∈runesF f l,c<=1114111:=by
 induction f generalizing l with
 |zero=>intro c b;cases b
 |succ f ih=>
  intro c b;unfold runesF at b;split at b
  .cases b
  rcases List.mem_cons.1 b with rfl|b
  .exact Lib.decodeL_rune l
  exact ih _ c b
theorem ol(l:Bs):∀c∈runesR l,c<=1114111:=wM _ _
def m8(x:ByteArray):Bs:=x.data.toList
def enc(c:Nat):Bs:=m8 (Utf8.encode (c:Int))
def rowsK:List (Bs×List Nat):=[
 ([97],[224,225,226,227,228,229,257,259,261,192,193,194,195,196,197,256,258,260]),
 ([99],[231,263,265,267,269,199,262,264,266,268]),
 ([100],[271,273,240,270,272,208]),
 ([101],[232,233,234,235,275,277,279,281,283,200,201,202,203,274,276,278,280,282]),
 ([103],[285,287,289,291,284,286,288,290]),
 ([104],[293,295,292,294]),
 ([105],[236,237,238,239,297,299,301,303,305,204,205,206,207,296,298,300,302,304]),
 ([106],[309,308]),
 ([107],[311,310]),
 ([108],[314,316,318,322,313,315,317,321]),
 ([110],[241,324,326,328,209,323,325,327]),
 ([111],[242,243,244,245,246,248,333,335,337,417,210,211,212,213,214,216,332,334,336,416]),
 ([114],[341,343,345,340,342,344]),
 ([115],[347,349,351,353,346,348,350,352]),
 ([116],[355,357,359,354,356,358]),
 ([117],[249,250,251,252,361,363,365,367,369,371,432,217,218,219,220,360,362,364,366,368,370,431]),
 ([119],[373,372]),
 ([121],[253,255,375,221,376,374]),
 ([122],[378,380,382,377,379,381]),
 ([97,101],[230,198]),
 ([111,101],[339,338]),
 ([115,115],[223]),
 ([116,104],[254,222]),
 ([206,177],[940,902]),
 ([206,181],[941,904]),
 ([206,183],[942,905]),
 ([206,185],[943,970,912,906,938]),
 ([206,191],[972,908]),
 ([207,133],[973,971,944,910,939]),
 ([207,137],[974,911]),
 ([208,181],[1105,1025])]
def rowIn(c:Nat):List (Bs×List Nat)->Option Bs
 |[]=>Y
 |(s,l)::t=>if l.contains c then X s else rowIn c t
def foldR(c:Nat):Bs:=
 if(97<=c/\c<=122)∨(48<=c/\c<=57)then enc c
 else if 65<=c/\c<=90 then enc (c+32)
 else if c<128 then[32]
 else if(768<=c/\c<=879)∨(65056<=c/\c<=65071)then[]
 else match rowIn c rowsK with
  |some s=>s
  |none=>if c=962 then enc 963
   else if(945<=c/\c<=969)∨(1072<=c/\c<=1103)then enc c
   else if(913<=c/\c<=937/\c≠930)∨(1040<=c/\c<=1071)then enc (c+32)
   else[32]
def aX:List Nat->Bs->List Bs
 |[],w=>if w=[]then[]else[w]
 |c::l,w=>if foldR c=[32]then(if w=[]then aX l []else w::aX l [])else aX l (w++foldR c)
def wordsR(s:Bs):List Bs:=aX (runesR s) []
def joinR:List Bs->Bs
 |[]=>[]
 |[a]=>a
 |a::b::l=>a++[32]++joinR (b::l)
def ea(w:Bs):Bool:=w.all digitB
def stripR:Bs->Bs
 |[]=>[]
 |[c]=>[c]
 |c::d::l=>if c=48 then stripR (d::l)else c::d::l
def dl(w:Bs):Bs:=if ea w then bw (48+min (stripR w).length 99/10)::bw (48+min (stripR w).length 99%10)::stripR w else w
def dG(s:Bs)(skip:Nat):Bs:=joinR ((wordsR (s.drop skip)).map dl)
def xB(c:UInt8):Bool:=decide (c=88)||decide (c=120)
def isbnGo:Bs->Bs
 |[]=>[]
 |c::l=>if digitB c||xB c then c::isbnGo l else if c=32∨c=45 then isbnGo l else[]
def valB(c:UInt8):Nat:=c.toNat-48
def checkGo:Nat->Bs->Nat
 |_,[]=>0
 |k,c::l=>valB c*(1+2*(k%2))+checkGo (k+1) l
def checkR(s:Bs):UInt8:=bw (48+(10-checkGo 0 (s.take 12)%10)%10)
def tenGo:Nat->Bs->Nat
 |_,[]=>0
 |k,c::l=>(10-k)*(if xB c then 10 else valB c)+tenGo (k+1) l
def jw(s:Bs):Bool:=decide (tenGo 0 s%11=0)&&(s.take 9).all digitB
def isbnR(s:Bs):Option Bs:=
 let o:=isbnGo s
 if o.length=10/\jw o then X ([57,55,56]++o.take 9++[checkR ([57,55,56]++o.take 9)])
 else if o.length=13/\ea o/\checkR o=o.getD 12 0 then X o
 else Y
def firstF(b:List ag)(c:Bs):Option ag:=b.find? λf=>f.tag==c
def textS(c:List cH)(b:Bs):Bs:=joinR ((c.filter λs=>b.contains s.code).map cH.text)
def textF(f:Option ag)(b:Bs):Bs:=match f with
 |some f=>textS f.subs b
 |none=>[]
def cA:Bs:=[50,52,53]
def ek:Bs:=[49,48,48]
def dh:Bs:=[48,50,48]
def lZ:Bs:=[48,48,56]
def lY:Bs:=[50,54,48]
def yP(f:Option ag):Nat:=match f with
 |some f=>match f.ind with
  |_::c::_=>if digitB c then c.toNat-48 else 0
  |_=>0
 |none=>0
def aN(b:List ag):Bs:=dG (textF (firstF b cA) [97,98]) (yP (firstF b cA))
def qK(f:ag):List Bs:=if f.tag=dh then f.subs.filterMap λs=>if s.code=97 then isbnR s.text else Y else[]
def booksR(b:List ag):List Bs:=b.flatMap qK
def bi(b:List ag):List Bs:=wordsR (textF (firstF b ek) [97])
def isbnK(n:Bs):Bs:=[105,115,98,110,32]++n
def j6(b:List ag):Bs:=[116,105,116,108,101,32]++aN b++[32,47,32]++(bi b).headD []
def rawR(b:List ag):List Bs:=(booksR b).map isbnK++(if aN b=[]then[]else[j6 b])
def aP(s:Bs):Int:=if s.length=4/\s.all digitB then s.foldl (λn c=>10*n+((c.toNat:Int)-48)) 0 else -1
def bu:Bs->Int
 |[]=> -1
 |c::l=>if 0<=aP ((c::l).take 4)then aP ((c::l).take 4)else bu l
def fE(b:List ag):Int:=match firstF b lZ with
 |some f=>if 11<=f.data.length then aP (CB f.data 7 11)else -1
 |none=> -1
def bx(b:List ag):Int:=if 0<=fE b then fE b else bu (textF (firstF b lY) [99])
def bookPts(m n:List Bs):Int:=if m=[]∨n=[]then 0 else if m.any n.contains then 50 else -30
def titlePts(s t:Bs):Int:=if s=[]∨t=[]then 0 else if s=t then 30 else -20
def authorPts(v w:List Bs):Int:=if v=[]∨w=[]then 0 else if v=w then 15 else if v.headD []=w.headD []then 8 else -15
def yearPts(x y:Int):Int:=if x<0∨y<0 then 0 else if x=y then 10 else if x-y=1∨y-x=1 then 0 else -10
def pointsR(a b:aG):Int:=
 bookPts (booksR a.fields) (booksR b.fields)+titlePts (aN a.fields) (aN b.fields)+authorPts (bi a.fields) (bi b.fields)+yearPts (bx a.fields) (bx b.fields)+(if a.kind=b.kind then 0 else -40)
def gl(a b:aG):Bool:=(rawR a.fields).any (rawR b.fields).contains&&decide (40<=pointsR a b)
def bW(l:List aG)(n i:Nat):List (Nat×Nat):=((bv n).filter λk=>decide (i<k)&&gl (l.getD i ⟨0,0,[]⟩) (l.getD k ⟨0,0,[]⟩)).map λk=>(i,k)
def pairsR(l:List aG):List (Nat×Nat):=(bv l).flatMap (bW l l)
theorem ab{w:aS}{b:Nat}{c:Array aT}{t:b2}(h:w.heap[b]?=X (au c t (0,0)))(i:Nat):w.cell? ⟨b,i,Y⟩=c[i]?:=by simp[World.cell?,h]
theorem ae{w:aS}{b:Nat}{c:Array aT}{t:b2}(h:w.heap[b]?=X (au c t (0,0)))(i:Nat):w.frozen? ⟨b,i,Y⟩=false:=by simp[World.frozen?,h]
theorem af{w:aS}{b:Nat}{o:Obj}(h:w.heap[b]?=X o):b<w:=(Array.getElem?_eq_some_iff.1 h).1
theorem aA{w:aS}{b:Nat}{c:Array aT}{t:b2}(h:w.heap[b]?=X (au c t (0,0)))(i:Nat)(u:aT):(w.setCell ⟨b,i,Y⟩ u).heap[b]?=X (au (c.setIfInBounds i u) t (0,0)):=by
 simp only[World.setCell,Array.getElem?_modify,if_true,h];rfl
theorem aQ{w:aS}{B:Nat}{e:b2}{k n:Nat}{v:aT}{c:List aT}(h:w.ownsRow B e k v n c):∃a b,v=ay a n b:=by
 rcases h.2 with⟨rfl,rfl⟩|⟨g,b,d,rfl,_⟩
 .exact⟨_,_,rfl⟩
 exact⟨_,_,rfl⟩
theorem mh{w:aS}{B:Nat}{e:b2}{k n:Nat}{v:aT}{c:List aT}(h:w.ownsRow B e k v n c):∀j,v.ownBlock=X j->j<w:=λj b=>(h.lt j b).2
theorem aj{w w':aS}{B:Nat}{e:b2}{k:Nat}{v:aT}{n:Nat}{c:List aT}(h:w.ownsRow B e k v n c)(l:∀g,v.ownBlock=X g->w'.heap[g]?=w.heap[g]?):w'.ownsRow B e k v n c:=by
 refine⟨h.1,?_⟩;rcases h.2 with hn|⟨g,d,f,b,i,j,m⟩
 .exact .inl hn
 exact .inr ⟨g,d,f,b,i,by rw[l g (by rw[b];simp[Value.ownBlock])];exact j,m⟩
theorem aD{w:aS}{B b:Nat}{e:b2}{k:Nat}{v:aT}{n:Nat}{c:List aT}(h:w.ownsRow B e k v n c)(i:b<=B):w.ownsRow b e k v n c:=by
 refine⟨h.1,?_⟩;rcases h.2 with hn|⟨g,d,f,m,j,l⟩
 .exact .inl hn
 exact .inr ⟨g,d,f,m,cp i j,l⟩
theorem aK{w:aS}{B e k n:Nat}{v:aT}{f:List aT}(h:w.ownsRow B e k v n f){g:Nat}(b:v.ownBlock=X g):∃c,w.heap[g]?=X (au c e (0,0)):=by
 rcases h.2 with⟨rfl,_⟩|⟨j,i,c,rfl,_,d,_⟩
 .cases b
 injection b with b;subst b;exact⟨c,d⟩
theorem dw{w:aS}{g k e f:Nat}{c d:Array aT}(i:w.heap[g]?=X (au c e (0,0)))(b:w.heap[k]?=X (au d f (0,0)))(h:e≠f):g≠k:=by
 rintro rfl;rw[i]at b;injection b with b
 injection b with _ b
 exact h b
structure ai(F:Nat->Prop)(w:aS)(F':Nat->Prop)(w':aS):Prop where
 os:w'.os=w.os
 tape:w'.tape=w.tape
 output:w'.output=w.output
 size:w.heap.size<=w'
 block:∀k,k<w.heap.size->¬F k->w'.heap[k]?=w.heap[k]?
 new:∀k,F' k->F k∨w<=k
theorem ai.refl(F:Nat->Prop)(w:aS):ai F w F w:=⟨rfl,rfl,rfl,cu _,λ_ _ _=>rfl,λ_ h=>.inl h⟩
theorem ai.trans{F d e:Nat->Prop}{x y z:aS}(h:ai F x d y)(k:ai d y e z):ai F x e z:=
 ⟨k.os.trans h.os,k.tape.trans h.tape,k.output.trans h.output,cp h.size k.size,
  λj c hn=>(k.block j (Nat.lt_of_lt_of_le c h.size) (λf=>by rcases h.new j f with b|b;exact hn b;omega)).trans (h.block j c hn),
  λj c=>by
   rcases k.new j c with b|b
   .exact h.new j b
   .exact .inr (cp h.size b)⟩
theorem ai.not{F b:Nat->Prop}{x y:aS}(h:ai F x b y){k:Nat}(e:k<x)(hn:¬F k):¬b k:=λd=>by
 rcases h.new k d with c|c
 .exact hn c
 omega
theorem ai.of_below{F:Nat->Prop}{w w':aS}(h:Bw w w'):ai F w F w':=⟨h.os,h.tape,h.output,h.size,λk b _=>h.block k b,λ_ h=>.inl h⟩
theorem ai.of_only{F:Nat->Prop}{b:Nat}{w w':aS}(h:aF b w w')(c:F b):ai F w F w':=⟨h.os,h.tape,h.output,by rw[h.size];exact cu _,λk _ hn=>h.block k (λe=>hn (e▸c)),λ_ h=>.inl h⟩
theorem ai.below{F b:Nat->Prop}{w w':aS}{lo:Nat}(h:ai F w b w')(e:∀k,F k->lo<=k)(g:lo<=w):Below lo w w'/\∀k,b k->lo<=k:=
 ⟨⟨h.os,h.tape,h.output,h.size,λk d=>h.block k (by omega) (λf=>by have:=e k f;omega)⟩,λk d=>by rcases h.new k d with c|c;exact e k c;omega⟩
theorem ai.cell{F b:Nat->Prop}{w w':aS}(h:ai F w b w'){k:Nat}(c:k<w)(hn:¬F k)(i:Nat):w'.cell? ⟨k,i,Y⟩=w.cell? ⟨k,i,Y⟩:=b6 (a:=⟨k,i,Y⟩) (h.block k c hn)
theorem ai.widen{F G c:Nat->Prop}{w w':aS}(h:ai F w c w')(hn:∀k,F k->G k):ai G w c w':=
 ⟨h.os,h.tape,h.output,h.size,λk b e=>h.block k b (λd=>e (hn k d)),λk b=>(h.new k b).imp (hn k) id⟩
theorem ai.lo{N b:Nat->Prop}{w w':aS}{lo:Nat}(h:ai N w b w')(c:∀k,N k->lo<=k)(d:lo<=w):∀k,b k->lo<=k:=(h.below c d).2
def upB(c:UInt8):UInt8:=if 97<=c.toNat/\c.toNat<=122 then c-32 else c
theorem jK(s:Bs):∀c∈isbnGo s,(digitB c||xB c)=true:=by
 induction s with
 |nil=>intro c h;cases h
 |cons d l ih=>
  intro c h;unfold isbnGo at h;split at h
  .rename_i b;rcases List.mem_cons.1 h with rfl|h
   .exact b
   exact ih c h
  split at h
  .exact ih c h
  cases h
theorem zC(s:Bs):(isbnGo s).length<=s:=by
 induction s with
 |nil=>exact cu _
 |cons d l ih=>
  unfold isbnGo;split
  .simp only[b7];omega
  split
  .simp only[b7];omega
  exact e6 _
theorem qX{c:UInt8}(h:digitB c=true):upB c=c:=by
 unfold digitB at h;simp only[bB,decide_eq_true_eq]at h;unfold upB;rw[if_neg (by omega)]
theorem yw:∀c:UInt8,(digitB c||xB c)=true->digitB (upB c)=digitB c/\xB (upB c)=xB c/\(decide (upB c=88)=xB c)/\valB (upB c)<=40:=by
 have:∀n:Fin 256,(digitB (bw n.val)||xB (bw n.val))=true->digitB (upB (bw n.val))=digitB (bw n.val)/\xB (upB (bw n.val))=xB (bw n.val)/\(decide (upB (bw n.val)=88)=xB (bw n.val))/\valB (upB (bw n.val))<=40:=by decide+kernel
 intro c;have h:=this ⟨c,c.toNat_lt⟩;simpa using h
theorem oO(l:Bs)(h:∀c∈l,(digitB c||xB c)=true):(l.map upB).all digitB=l.all digitB:=by
 induction l with
 |nil=>rfl
 |cons c l ih=>simp only[b3,List.all_cons];rw[ih λx b=>h x (b8 _ b),(yw c (h c bs)).1]
theorem vi(l:Bs)(h:l.all digitB=true):l.map upB=l:=by
 induction l with
 |nil=>rfl
 |cons c l ih=> simp only[List.all_cons,bB]at h;simp only[b3];rw[qX h.1,ih h.2]
def tenSum:Nat->Bs->Nat
 |_,[]=>0
 |k,c::l=>(10-k)*(if c=88 then 10 else valB c)+tenSum (k+1) l
theorem AH(k:Nat)(l:Bs)(h:∀c∈l,(digitB c||xB c)=true):tenSum k (l.map upB)=tenGo k l:=by
 induction l generalizing k with
 |nil=>rfl
 |cons c l ih=>
  have g:=yw c (h c bs);simp only[b3];unfold tenSum tenGo;rw[ih (k+1) λx b=>h x (b8 _ b)];have e:(upB c=88)↔xB c=true:=by rw[<- g.2.2.1];simp
  by_cases b:xB c=true
  .rw[if_pos (e.2 b),if_pos b]
  rw[if_neg (λf=>b (e.1 f)),if_neg b]
  have i:digitB c=true:=by have:=h c bs;simp only [c7] at this;rcases this with d|d
                           .exact d
                           .exact absurd d b
  rw[qX i]
def fP(u:Bs):Option Bs:=
 if u.length=10/\(tenSum 0 u%11=0/\(u.take 9).all digitB=true)then X ([57,55,56]++u.take 9++[checkR ([57,55,56]++u.take 9)])
 else if u.length=13/\u.all digitB=true/\checkR u=u.getD 12 0 then X u
 else Y
theorem CW(s:Bs):fP ((isbnGo s).map upB)=isbnR s:=by
 have b:=jK s;unfold fP isbnR;simp only;generalize isbnGo s=o at b;rw[cl,<- List.map_take,oO (o.take 9) λc f=>b c (List.mem_of_mem_take f),AH 0 o b];have d:(tenGo 0 o%11=0/\(o.take 9).all digitB=true)↔jw o=true:=by unfold jw;simp
 by_cases h1:o.length=10/\jw o=true
 .have e:=(d.2 h1.2).2;rw[if_pos ⟨h1.1,d.2 h1.2⟩,if_pos h1,vi _ e]
 rw[if_neg λh=>h1 ⟨h.1,d.1 h.2⟩,if_neg h1];unfold ea;rw[oO o b];by_cases h3:o.all digitB=true
 .rw[vi _ h3]
 rw[if_neg λh=>h3 h.2.1,if_neg λh=>h3 h.2.1]
end
section
open Go
section
variable {P:da} {ops:Array Oper} {Q:Exit->Act->aS->Prop} {md:cq} {S:aS->Prop} {z:Nat}
def anyT(P:da)(md:cq)(ops:Array Oper)(Q:Exit->Act->aS->Prop)(S:aS->Prop)(z:Nat):Nat->Array Bool->Act->aS->Prop
 |0,listed,a,w=>bb md ops listed=[]/\Q .normal a w
 |n+1,listed,a,w=>
  (bb md ops listed=[]->Q .normal a w)/\
  ∀i∈bb md ops listed,wpOp P ops Q i (λb w'=>(i≠z->S w')/\anyT P md ops Q S z n (listed.setIfInBounds i true) b w') a w
theorem nc:∀(n:Nat)(listed:Array Bool)(a:Act)(w:aS),anyT P md ops Q S z n listed a w->wpAny P md ops Q n listed a w
 |0,_,_,_,h=>h
 |n+1,_,_,_,h=>⟨h.1,λi d=>wpOp_mono (λb w' c=>nc n _ b w' c.2) (h.2 i d)⟩
def ph(md:cq)(ops:Array Oper)(z i:Nat):Bool:=match ops[z]? with
 |some o=>o.after.any λe=>cj md e&&e.on==i
 |none=>false
theorem wX{i:Nat}{g:Array Bool}(c:ph md ops z i=true)(h:g.getD i true=false):z∉bb md ops g:=by
 intro m;obtain⟨_,o,l,j⟩:=mem_ready.1 m;unfold ph at c;rw[l]at c;simp only at c;obtain⟨e,k,f⟩:=Array.any_eq_true'.1 c;simp only[bB,beq_iff_eq]at f;have b:=j e k f.1;rw[f.2]at b;rcases cz i g.size with d|d
 .simp[d]at h b;rw[h]at b;cases b
 simp[bd d]at b
theorem uZ{i:Nat}{g:Oper}{v:aT}(u:ops[i]?=X g)(E:∀(j:Nat)(o:Oper)l b,ops[j]?=X o->o.op≠ .select l b)
 (N:∀c a w,Q (.panic c) (a.put g.dst v) w->Q (.panic c) a w)(hz:ph md ops z i=true)(a6:i≠z):
 ∀(n:Nat)(d:Array Bool)(a:Act)(w:aS),
  (∀j f,ops[j]?=X f->j≠i->d.getD j true=false->(∀e∈f.after,cj md e=true->e.on≠i)->g.apart ops f=true)->
  i∈bb md ops d->YieldsIf P ops S g v a->S w->
  anyT P md ops Q S z n (d.setIfInBounds i true) (a.put g.dst v) w->anyT P md ops Q S z (n+1) d a w:=by
 intro n;induction n with
 |zero=>
  intro d a w _ r s p H;refine⟨λh=>absurd r (by rw[h];simp),λj q=>?_⟩;by_cases hji:j=i
  .subst hji;exact s.wpOp u p ⟨λ_=>p,H⟩
  exact absurd (cv q hji) (by rw[H.1];simp)
 |succ n ih=>
  intro d a w C r s p H;have y:=(mem_ready.1 r).1;refine⟨λh=>absurd r (by rw[h];simp),λj q=>?_⟩;by_cases hji:j=i
  .subst hji;exact s.wpOp u p ⟨λ_=>p,H⟩
  have a0:j≠z:=λe=>wX hz y (e▸q);obtain⟨D,f,x,O⟩:=mem_ready.1 q;have a4:∀e∈f.after,cj md e=true->e.on≠i:=by
   intro e T R W;have m:=O e T R;rw[W]at m;rcases cz i d.size with t|t
   .simp[t]at y m;rw[y]at m;cases m
   simp[bd t]at m
  have I:=wpOp_putIf x (C j f x hji D a4) (λl b=>E i g l b u) (λl b=>E j f l b x) N s (H.2 j (cv q hji));refine wpOp_mono (λG w' M=>?_) I;obtain⟨a5,A,F⟩:=M;refine⟨A,ih (d.setIfInBounds j true) G w' ?_ (cv r (Ne.symm hji)) a5 (A a0) ?_⟩
  .intro k ok hk a1 a2 a3;refine C k ok hk a1 ?_ a3;by_cases hjk:j=k
   .subst hjk;exact D
   rwa[getD_set_ne true hjk]at a2
  rw[cg _ _ hji];exact F
theorem bZ{i:Nat}{d:Oper}{v:aT}{n:Nat}{b:Array Bool}{a:Act}{w:aS}(e:ops[i]?=X d)
 (m:bt ops=true)(j:b1 md ops b i=true)(l:(bb md ops b).contains i=true)(q:ph md ops z i=true)(k:i≠z)
 (f:∀c a w,Q (.panic c) (a.put d.dst v) w->Q (.panic c) a w)(g:S w)(p:YieldsIf P ops S d v a)
 (h:anyT P md ops Q S z n (b.setIfInBounds i true) (a.put d.dst v) w):anyT P md ops Q S z (n+1) b a w:=
 uZ e (Region.noSelect_spec m) f q k n b a w (Region.free_spec e j) (by simpa using l) p g h
theorem Dt{i:Nat}{o:Oper}{n:Nat}{c:Array Bool}{a:Act}{w:aS}(m:ops[i]?=X o)(e:bb md ops c=[i])(l:o.guard=Y)
 (h:∀K:Act->aS->Prop,(∀b w',(i≠z->S w')->anyT P md ops Q S z n (c.setIfInBounds i true) b w'->K b w')->o.wp P a w K Q):anyT P md ops Q S z (n+1) c a w:=by
 refine⟨λf=>absurd f (by rw[e];simp),λj d=>?_⟩;rw[e]at d;obtain rfl:j=i:=by simpa using d
 unfold wpOp;rw[m];simp only[bc,l,if_true];exact .inl (h _ λb w' g k=>⟨g,k⟩)
theorem C9{c:Array Bool}{a:Act}{w:aS}(b:bb md ops c=[])(h:Q .normal a w):∀n,anyT P md ops Q S z n c a w
 |0=>⟨b,h⟩
 |_+1=>⟨λ_=>h,by rw[b];simp⟩
theorem Ck{id:Nat}{l:List Oper}{a:Act}{w:aS}(S:aS->Prop)(z:Nat)(b:P.follows .mixedOrders=true)
 (h:anyT P .any l.toArray Q S z l.toArray.size (c5 l.toArray.size false) a w.drew):(Code.region id l.toArray true).wp P Q a w:=
 wp_region_any b (nc _ _ _ _ h)
end
end
section
open Go.RowKit
section
variable {P:da} {md:cq} {ops:Array Oper} {Q:Exit->Act->aS->Prop} {S:aS->Prop} {z:Nat}
theorem tv{i:Nat}{g:Oper}{v:aT}(x:ops[i]?=X g)(D:∀(j:Nat)(o:Oper)l b,ops[j]?=X o->o.op≠ .select l b)
 (N:∀c a w,Q (.panic c) (a.put g.dst v) w->Q (.panic c) a w)(hz:ops[z]?=Y):
 ∀(n:Nat)(d:Array Bool)(a:Act)(w:aS),
  (∀j f,ops[j]?=X f->j≠i->d.getD j true=false->(∀e∈f.after,cj md e=true->e.on≠i)->g.apart ops f=true)->
  i∈bb md ops d->YieldsIf P ops S g v a->S w->
  anyT P md ops Q S z n (d.setIfInBounds i true) (a.put g.dst v) w->anyT P md ops Q S z (n+1) d a w:=by
 intro n;induction n with
 |zero=>
  intro d a w _ r t p H;refine⟨λh=>absurd r (by rw[h];simp),λj s=>?_⟩;by_cases hji:j=i
  .subst hji;exact t.wpOp x p ⟨λ_=>p,H⟩
  exact absurd (cv s hji) (by rw[H.1];simp)
 |succ n ih=>
  intro d a w A r t p H;have E:=(mem_ready.1 r).1;refine⟨λh=>absurd r (by rw[h];simp),λj s=>?_⟩;by_cases hji:j=i
  .subst hji;exact t.wpOp x p ⟨λ_=>p,H⟩
  obtain⟨C,f,q,O⟩:=mem_ready.1 s;have a0:j≠z:=λe=>by rw[e,hz]at q;cases q
  have a4:∀e∈f.after,cj md e=true->e.on≠i:=by
   intro e T R W;have m:=O e T R;rw[W]at m;rcases cz i d.size with u|u
   .simp[u]at E m;rw[E]at m;cases m
   simp[bd u]at m
  have I:=wpOp_putIf q (A j f q hji C a4) (λl b=>D i g l b x) (λl b=>D j f l b q) N t (H.2 j (cv s hji));refine wpOp_mono (λG w' M=>?_) I;obtain⟨a5,y,F⟩:=M;refine⟨y,ih (d.setIfInBounds j true) G w' ?_ (cv r (Ne.symm hji)) a5 (y a0) ?_⟩
  .intro k ok hk a1 a2 a3;refine A k ok hk a1 ?_ a3;by_cases hjk:j=k
   .subst hjk;exact C
   rwa[getD_set_ne true hjk]at a2
  rw[cg _ _ hji];exact F
theorem cn{i:Nat}{d:Oper}{v:aT}{n:Nat}{b:Array Bool}{a:Act}{w:aS}(e:ops[i]?=X d)
 (l:bt ops=true)(j:b1 md ops b i=true)(k:(bb md ops b).contains i=true)(p:ops[z]?=Y)
 (f:∀c a w,Q (.panic c) (a.put d.dst v) w->Q (.panic c) a w)(g:S w)(m:YieldsIf P ops S d v a)
 (h:anyT P md ops Q S z n (b.setIfInBounds i true) (a.put d.dst v) w):anyT P md ops Q S z (n+1) b a w:=
 tv e (Region.noSelect_spec l) f p n b a w (Region.free_spec e j) (by simpa using k) m g h
theorem Dr{i:Nat}{o:Oper}{n:Nat}{c:Array Bool}{a:Act}{w:aS}(m:ops[i]?=X o)(e:bb md ops c=[i])(l:bc o (yielded ops a.tmps)=true)
 (h:∀K:Act->aS->Prop,(∀b w',(i≠z->S w')->anyT P md ops Q S z n (c.setIfInBounds i true) b w'->K b w')->o.wp P a w K Q):anyT P md ops Q S z (n+1) c a w:=by
 refine⟨λf=>absurd f (by rw[e];simp),λj d=>?_⟩;rw[e]at d;obtain rfl:j=i:=by simpa using d
 unfold wpOp;rw[m];simp only[l,if_true];exact .inl (h _ λb w' g k=>⟨g,k⟩)
theorem cF{i j:Nat}{o g:Oper}{n:Nat}{e:Array Bool}{a:Act}{w:aS}(q:ops[i]?=X o)(r:ops[j]?=X g)
 (h:bb md ops e=[i,j])(m:o.guard=Y)(p:g.guard=Y)
 (c:∀K:Act->aS->Prop,(∀b w',(i≠z->S w')->anyT P md ops Q S z n (e.setIfInBounds i true) b w'->K b w')->o.wp P a w K Q)
 (d:∀K:Act->aS->Prop,(∀b w',(j≠z->S w')->anyT P md ops Q S z n (e.setIfInBounds j true) b w'->K b w')->g.wp P a w K Q):anyT P md ops Q S z (n+1) e a w:=by
 refine⟨λl=>absurd l (by rw[h];simp),λk f=>?_⟩;rw[h]at f;simp only[bl,List.not_mem_nil,or_false]at f;rcases f with rfl|rfl
 .unfold wpOp;rw[q];simp only[bc,m,if_true];exact .inl (c _ λb w' c d=>⟨c,d⟩)
 unfold wpOp;rw[r];simp only[bc,p,if_true];exact .inl (d _ λb w' c d=>⟨c,d⟩)
theorem nd{i j k:Nat}{o g h:Oper}{n:Nat}{e:Array Bool}{a:Act}{w:aS}(u:ops[i]?=X o)(v:ops[j]?=X g)(x:ops[k]?=X h)
 (l:bb md ops e=[i,j,k])(r:o.guard=Y)(s:g.guard=Y)(t:h.guard=Y)
 (c:∀K:Act->aS->Prop,(∀b w',(i≠z->S w')->anyT P md ops Q S z n (e.setIfInBounds i true) b w'->K b w')->o.wp P a w K Q)
 (d:∀K:Act->aS->Prop,(∀b w',(j≠z->S w')->anyT P md ops Q S z n (e.setIfInBounds j true) b w'->K b w')->g.wp P a w K Q)
 (p:∀K:Act->aS->Prop,(∀b w',(k≠z->S w')->anyT P md ops Q S z n (e.setIfInBounds k true) b w'->K b w')->h.wp P a w K Q):anyT P md ops Q S z (n+1) e a w:=by
 refine⟨λm=>absurd m (by rw[l];simp),λq f=>?_⟩;rw[l]at f;simp only[bl,List.not_mem_nil,or_false]at f;rcases f with rfl|rfl|rfl
 .unfold wpOp;rw[u];simp only[bc,r,if_true];exact .inl (c _ λb w' c d=>⟨c,d⟩)
 .unfold wpOp;rw[v];simp only[bc,s,if_true];exact .inl (d _ λb w' c d=>⟨c,d⟩)
 unfold wpOp;rw[x];simp only[bc,t,if_true];exact .inl (p _ λb w' c d=>⟨c,d⟩)
end
end
section
variable {P:da} {md:cq} {ops:Array Oper} {Q:Exit->Act->aS->Prop} {S:aS->Prop} {z:Nat}
def TL(_:List Nat):Prop:=True
theorem tkL(l:List Nat):TL l:=trivial
theorem tkO{i:Nat}{is:List Nat}(_:TL (i::is)):TL is:=trivial
theorem tk{n:Nat}{d:Array Bool}{a:Act}{w:aS}{b:Oper}(i:Nat)(v:aT)(k:ops[i]?=X b)(f:S w)
 (q:∀w',S w'->(execOp a.eval b).run P w'=.ok (.value v) w')(h:anyT P md ops Q S z n (d.setIfInBounds i true) (a.put b.dst v) w)
 (j:bc b (yielded ops a.tmps)=true:=by rfl)(p:bt ops=true:=by kernel_rfl)(g:b1 md ops d i=true:=by kernel_rfl)
 (m:(bb md ops d).contains i=true:=by kernel_rfl)(r:ph md ops z i=true:=by kernel_rfl)(l:i≠z:=by decide)
 (e:∀c a w,Q (.panic c) (a.put b.dst v) w->Q (.panic c) a w:=by exactλ_ _ _ h=>h):anyT P md ops Q S z (n+1) d a w:=
 bZ k p g m r l e f (Or.inl ⟨j,q⟩) h
theorem tkI{n:Nat}{d:Array Bool}{a:Act}{w:aS}{b:Oper}{i:Nat}{is:List Nat}(_:TL (i::is))(v:aT)(k:ops[i]?=X b)(f:S w)
 (q:∀w',S w'->(execOp a.eval b).run P w'=.ok (.value v) w')(h:anyT P md ops Q S z n (d.setIfInBounds i true) (a.put b.dst v) w)
 (j:bc b (yielded ops a.tmps)=true:=by rfl)(p:bt ops=true:=by kernel_rfl)(g:b1 md ops d i=true:=by kernel_rfl)
 (m:(bb md ops d).contains i=true:=by kernel_rfl)(r:ph md ops z i=true:=by kernel_rfl)(l:i≠z:=by decide)
 (e:∀c a w,Q (.panic c) (a.put b.dst v) w->Q (.panic c) a w:=by exactλ_ _ _ h=>h):anyT P md ops Q S z (n+1) d a w:=
 tk i v k f q h j p g m r l e
theorem tf{n:Nat}{b:Array Bool}{a:Act}{w:aS}{d:Oper}(i:Nat)(k:ops[i]?=X d)(f:S w)
 (h:anyT P md ops Q S z n (b.setIfInBounds i true) (a.put d.dst undef) w)
 (j:bc d (yielded ops a.tmps)=false:=by rfl)(p:bt ops=true:=by kernel_rfl)(g:b1 md ops b i=true:=by kernel_rfl)
 (m:(bb md ops b).contains i=true:=by kernel_rfl)(q:ph md ops z i=true:=by kernel_rfl)(l:i≠z:=by decide)
 (e:∀c a w,Q (.panic c) (a.put d.dst undef) w->Q (.panic c) a w:=by exactλ_ _ _ h=>h):anyT P md ops Q S z (n+1) b a w:=
 bZ k p g m q l e f (Or.inr ⟨j,rfl⟩) h
theorem tkS{n:Nat}{d:Array Bool}{a:Act}{w:aS}{b:Oper}(i:Nat)(v:aT)(k:ops[i]?=X b)(f:S w)
 (p:∀w',S w'->(execOp a.eval b).run P w'=.ok (.value v) w')(h:anyT P md ops Q S z n (d.setIfInBounds i true) (a.put b.dst v) w)
 (j:bc b (yielded ops a.tmps)=true:=by rfl)(m:bt ops=true:=by kernel_rfl)(g:b1 md ops d i=true:=by kernel_rfl)
 (l:(bb md ops d).contains i=true:=by kernel_rfl)(q:ops[z]?=Y:=by rfl)
 (e:∀c a w,Q (.panic c) (a.put b.dst v) w->Q (.panic c) a w:=by exactλ_ _ _ h=>h):anyT P md ops Q S z (n+1) d a w:=
 cn k m g l q e f (Or.inl ⟨j,p⟩) h
theorem tkIS{n:Nat}{d:Array Bool}{a:Act}{w:aS}{b:Oper}{i:Nat}{is:List Nat}(_:TL (i::is))(v:aT)(k:ops[i]?=X b)(f:S w)
 (p:∀w',S w'->(execOp a.eval b).run P w'=.ok (.value v) w')(h:anyT P md ops Q S z n (d.setIfInBounds i true) (a.put b.dst v) w)
 (j:bc b (yielded ops a.tmps)=true:=by rfl)(m:bt ops=true:=by kernel_rfl)(g:b1 md ops d i=true:=by kernel_rfl)
 (l:(bb md ops d).contains i=true:=by kernel_rfl)(q:ops[z]?=Y:=by rfl)
 (e:∀c a w,Q (.panic c) (a.put b.dst v) w->Q (.panic c) a w:=by exactλ_ _ _ h=>h):anyT P md ops Q S z (n+1) d a w:=
 tkS i v k f p h j m g l q e
theorem tfS{n:Nat}{b:Array Bool}{a:Act}{w:aS}{d:Oper}(i:Nat)(k:ops[i]?=X d)(f:S w)
 (h:anyT P md ops Q S z n (b.setIfInBounds i true) (a.put d.dst undef) w)
 (j:bc d (yielded ops a.tmps)=false:=by rfl)(m:bt ops=true:=by kernel_rfl)(g:b1 md ops b i=true:=by kernel_rfl)
 (l:(bb md ops b).contains i=true:=by kernel_rfl)(p:ops[z]?=Y:=by rfl)
 (e:∀c a w,Q (.panic c) (a.put d.dst undef) w->Q (.panic c) a w:=by exactλ_ _ _ h=>h):anyT P md ops Q S z (n+1) b a w:=
 cn k m g l p e f (Or.inr ⟨j,rfl⟩) h
theorem dO{n:Nat}{b:Array Bool}{a:Act}{w:aS}{o:Oper}(i:Nat)(e:ops[i]?=X o)
 (h:∀K:Act->aS->Prop,(∀c w',(i≠z->S w')->anyT P md ops Q S z n (b.setIfInBounds i true) c w'->K c w')->o.wp P a w K Q)
 (f:bb md ops b=[i]:=by kernel_rfl)(d:o.guard=Y:=by rfl):anyT P md ops Q S z (n+1) b a w:=
 Dt e f d h
theorem dB{n:Nat}{b:Array Bool}{a:Act}{w:aS}{o:Oper}(i:Nat)(e:ops[i]?=X o)
 (h:∀K:Act->aS->Prop,(∀c w',(i≠z->S w')->anyT P md ops Q S z n (b.setIfInBounds i true) c w'->K c w')->o.wp P a w K Q)
 (f:bb md ops b=[i]:=by kernel_rfl)(d:bc o (yielded ops a.tmps)=true:=by rfl):anyT P md ops Q S z (n+1) b a w:=
 Dr e f d h
theorem dN{n:Nat}{b:Array Bool}{a:Act}{w:aS}(h:Q .normal a w)(c:bb md ops b=[]:=by kernel_rfl):anyT P md ops Q S z n b a w:=C9 c h n
theorem wT{id:Nat}{l:List Oper}{a:Act}{w:aS}(S:aS->Prop)(z:Nat)
 (h:anyT P .any l.toArray Q S z l.toArray.size (c5 l.toArray.size false) a w.drew)(b:P.follows .mixedOrders=true:=by kernel_rfl):(Code.region id l.toArray true).wp P Q a w:=
 Ck S z b h
theorem Dp{n:Nat}{b:Array Bool}{a:Act}{w:aS}{o:Oper}(i:Nat)
 (h:∀K:Act->aS->Prop,(∀c w',(i≠z->S w')->anyT P md ops Q S z n (b.setIfInBounds i true) c w'->K c w')->o.wp P a w K Q)
 (e:ops[i]?=X o:=by exact rfl)(f:bb md ops b=[i]:=by kernel_rfl)(d:o.guard=Y:=by rfl):anyT P md ops Q S z (n+1) b a w:=
 Dt e f d h
theorem Dj{n:Nat}{b:Array Bool}{a:Act}{w:aS}{o:Oper}{i:Nat}{is:List Nat}(_:TL (i::is))
 (h:∀K:Act->aS->Prop,(∀c w',(i≠z->S w')->anyT P md ops Q S z n (b.setIfInBounds i true) c w'->K c w')->o.wp P a w K Q)
 (e:ops[i]?=X o:=by exact rfl)(f:bb md ops b=[i]:=by kernel_rfl)(d:o.guard=Y:=by rfl):anyT P md ops Q S z (n+1) b a w:=
 Dt e f d h
theorem Dq{n:Nat}{b:Array Bool}{a:Act}{w:aS}{o:Oper}(i:Nat)
 (h:∀K:Act->aS->Prop,(∀c w',(i≠z->S w')->anyT P md ops Q S z n (b.setIfInBounds i true) c w'->K c w')->o.wp P a w K Q)
 (e:ops[i]?=X o:=by exact rfl)(f:bb md ops b=[i]:=by kernel_rfl)(d:bc o (yielded ops a.tmps)=true:=by rfl):anyT P md ops Q S z (n+1) b a w:=
 Dr e f d h
theorem Wb{id:Nat}{l:List Oper}{a:Act}{w:aS}(v:aS)(z:Nat)
 (h:anyT P .any l.toArray Q (λW=>Go.RowKit.Below v.heap.size v W) z l.toArray.size (c5 l.toArray.size false) a w.drew)(b:P.follows .mixedOrders=true:=by kernel_rfl):(Code.region id l.toArray true).wp P Q a w:=
 Ck _ z b h
theorem Qa{G b q:Prop}(l:List Nat)(x:q)(g:b)(h:TL l->q->Go.RowKit.Hid b->G:=by intro z x k;(repeat(refine tkI z ?_ rfl x ?_ ?_;rotate_left;intro w' h;go_simp;rfl;(try go_simp);replace z:=tkO z));exact k.o):G:=h trivial x g
theorem Qc{G b q:Prop}(l:List Nat)(x:q)(g:b)(h:TL l->q->Go.RowKit.Hid b->G:=by intro z x k;(repeat(refine tkIS z ?_ rfl x ?_ ?_;rotate_left;intro w' h;go_simp;rfl;(try go_simp);replace z:=tkO z));exact k.o):G:=h trivial x g
theorem Qb{G b q:Prop}{T F:aS->Prop}(l:List Nat)(x:q)(f:∀w,T w->F w)(g:b)(h:TL l->q->Go.RowKit.Hid (∀w,T w->F w)->Go.RowKit.Hid b->G:=by intro z x f k;(repeat(refine tkI z ?_ rfl x ?_ ?_;rotate_left;intro w' h;have q:=f w' h;go_simp;rfl;(try go_simp);replace z:=tkO z));exact k.o):G:=h trivial x f g
theorem Qd{G b q:Prop}{T F:aS->Prop}(l:List Nat)(x:q)(f:∀w,T w->F w)(g:b)(h:TL l->q->Go.RowKit.Hid (∀w,T w->F w)->Go.RowKit.Hid b->G:=by intro z x f k;(repeat(refine tkIS z ?_ rfl x ?_ ?_;rotate_left;intro w' h;have q:=f w' h;go_simp;rfl;(try go_simp);replace z:=tkO z));exact k.o):G:=h trivial x f g
theorem Dl{G b:Prop}(i:Nat)(g:b)(h:TL [i]->Go.RowKit.Hid b->G:=by intro z k;refine Dj z λK O=>?_;go_simp;refine O _ _ (λh=>absurd rfl h) ?_;clear O K;refine dN ?_;exact k.o):G:=h trivial g
theorem Ds{G b q:Prop}(i:Nat)(x:q)(g:b)(h:TL [i]->q->Go.RowKit.Hid b->G:=by intro z x k;refine Dj z λK O=>?_;go_simp;refine O _ _ (λ_=>x) ?_;clear O K;exact k.o):G:=h trivial x g
theorem tfIS{n:Nat}{b:Array Bool}{a:Act}{w:aS}{d:Oper}{i:Nat}{is:List Nat}(_:TL (i::is))(k:ops[i]?=X d)(f:S w)
 (h:anyT P md ops Q S z n (b.setIfInBounds i true) (a.put d.dst undef) w)
 (j:bc d (yielded ops a.tmps)=false:=by rfl)(m:bt ops=true:=by kernel_rfl)(g:b1 md ops b i=true:=by kernel_rfl)
 (l:(bb md ops b).contains i=true:=by kernel_rfl)(p:ops[z]?=Y:=by rfl)
 (e:∀c a w,Q (.panic c) (a.put d.dst undef) w->Q (.panic c) a w:=by exactλ_ _ _ h=>h):anyT P md ops Q S z (n+1) b a w:=
 tfS i k f h j m g l p e
theorem Qg{G b q:Prop}(l:List Nat)(x:q)(g:b)(h:TL l->q->Go.RowKit.Hid b->G:=by intro z x k;(repeat(refine tfIS z rfl x ?_;(try go_simp);replace z:=tkO z));exact k.o):G:=h trivial x g
theorem eql_if{w:aS}{a b c d:Int}{t:Bool}(h:decide (a=c/\b=d)=t):(if a=c then if b=d then Result.ok (Next.value (dk true)) w else Result.ok (Next.value (dk false)) w else Result.ok (Next.value (dk false)) w)=Result.ok (Next.value (dk t)) w:=by
 subst h;by_cases h1:a=c<;>by_cases h2:b=d<;>simp[h1,h2]
theorem Qh{G b q r:Prop}(l:List Nat)(x:q)(e:r)(g:b)(h:TL l->q->Go.RowKit.Hid r->Go.RowKit.Hid b->G:=by intro z x e k;refine tkIS z ?_ rfl x ?_ ?_;rotate_left;intro w' h;go_simp;exact eql_if e.o;(try go_simp);exact k.o):G:=h trivial x e g
theorem calls2{n:Nat}{f:Array Bool}{a m l p q:Act}{w:aS}{o g:Oper}{C k:aS->Prop}(i j:Nat)(x:S w)(c:∀W,S W->C W)(r:∀W,S W->k W)
 (h:∀W,S W->anyT P md ops Q S z n ((f.setIfInBounds i true).setIfInBounds j true) l W)
 (u:ops[i]?=X o:=by exact rfl)(v:ops[j]?=X g:=by exact rfl)
 (A:Go.RowKit.Hid (∀W,S W->C W)->∀K W,S W->(∀b,S b->K m b)->o.wp P a W K Q:=by intro c K W x h;go_simp;refine Go.Calls.mono (c W x) ?_;rintro e b⟨rfl,y⟩;exact h b y)
 (D:Go.RowKit.Hid (∀W,S W->k W)->∀K W,S W->(∀b,S b->K l b)->g.wp P m W K Q:=by intro c K W x h;go_simp;refine Go.Calls.mono (c W x) ?_;rintro e b⟨rfl,y⟩;exact h b y)
 (E:Go.RowKit.Hid (∀W,S W->k W)->∀K W,S W->(∀b,S b->K p b)->g.wp P a W K Q:=by intro c K W x h;go_simp;refine Go.Calls.mono (c W x) ?_;rintro e b⟨rfl,y⟩;exact h b y)
 (F:Go.RowKit.Hid (∀W,S W->C W)->∀K W,S W->(∀b,S b->K q b)->o.wp P p W K Q:=by intro c K W x h;go_simp;refine Go.Calls.mono (c W x) ?_;rintro e b⟨rfl,y⟩;exact h b y)
 (G:q=l:=by rfl)(H:i≠j:=by decide)
 (I:bb md ops f=[i,j]:=by kernel_rfl)(M:bb md ops (f.setIfInBounds i true)=[j]:=by kernel_rfl)(N:bb md ops (f.setIfInBounds j true)=[i]:=by kernel_rfl)
 (s:o.guard=Y:=by rfl)(t:g.guard=Y:=by rfl):anyT P md ops Q S z (n+2) f a w:=
 cF u v I s t
  (λ_ d=>A c _ _ x λb y=>d _ _ (λ_=>y) (Dt v M t λ_ d=>D r _ _ y λ_ y=>d _ _ (λ_=>y) (h _ y)))
  (λ_ d=>E r _ _ x λb y=>d _ _ (λ_=>y) (Dt u N s λ_ d=>F c _ _ y λ_ y=>d _ _ (λ_=>y) (by rw[G,<- cg _ _ H];exact h _ y)))
theorem call1{n:Nat}{d:Array Bool}{a f:Act}{w:aS}{o:Oper}{C:aS->Prop}(i:Nat)(x:S w)(c:∀W,S W->C W)
 (h:∀W,S W->anyT P md ops Q S z n (d.setIfInBounds i true) f W)
 (l:ops[i]?=X o:=by exact rfl)
 (g:Go.RowKit.Hid (∀W,S W->C W)->∀K W,S W->(∀b,S b->K f b)->o.wp P a W K Q:=by intro c K W x h;go_simp;refine Go.Calls.mono (c W x) ?_;rintro e b⟨rfl,y⟩;exact h b y)
 (m:bb md ops d=[i]:=by kernel_rfl)(k:bc o (yielded ops a.tmps)=true:=by rfl):anyT P md ops Q S z (n+1) d a w:=
 Dr l m k λ_ j=>g c _ _ x λ_ y=>j _ _ (λ_=>y) (h _ y)
end
section
open Go.RowKit
set_option linter.unusedSectionVars false
structure Tot{K:Type}(lt:K->K->Bool):Prop where
 irr:∀a,lt a a=false
 tr:∀a b c,lt a b=true->lt b c=true->lt a c=true
 tot:∀a b,a≠b->lt a b=true∨lt b a=true
theorem Tot.asym{K:Type}{lt:K->K->Bool}(T:Tot lt){a b:K}(h:lt a b=true):lt b a=false:=by
 cases h2:lt b a
 .rfl
 have:=T.tr _ _ _ h h2;rw[T.irr]at this;cases this
section
variable {K V:Type} [DecidableEq K] (lt:K->K->Bool)
def insL:List (K×V)->K->V->List (K×V)
 |[],k,v=>[(k,v)]
 |p::l,k,v=>if lt p.1 k then p::insL l k v else if p.1=k then(k,v)::l else(k,v)::p::l
def findK(l:List (K×V))(k:K):Option V:=(l.find? λp=>decide (p.1=k)).map (·.2)
def aH(l:List (K×V)):Prop:=l.Pairwise λp q=>lt p.1 q.1=true
def placeK(l:List (K×V))(k:K):Nat:=(l.takeWhile λp=>lt p.1 k).length
variable {lt}
theorem gW(l:List (K×V))(k:K):placeK lt l k<=l:=by
 unfold placeK;have:=(List.takeWhile_sublist (p:=λp:K×V=>lt p.1 k) (l:=l)).length_le;exact this
theorem mr(l:List (K×V))(k:K)(i:Nat)(h:i<placeK lt l k)(b:i<l):lt l[i].1 k=true:=by
 unfold placeK at h;induction l generalizing i with
 |nil=>simp at b
 |cons p l ih=>
  rw[bA]at h;split at h
  .rename_i c;cases i with
   |zero=>exact c
   |succ i=>exact ih i (by simpa using h) (by simpa using b)
  simp at h
theorem mu(l:List (K×V))(k:K)(h:placeK lt l k<l):lt l[placeK lt l k].1 k=false:=by
 induction l with
 |nil=>simp at h
 |cons p l ih=>
  unfold placeK at h ⊢;by_cases hp:lt p.1 k=true
  .have e:(List.takeWhile (λp:K×V=>lt p.1 k) (p::l)).length=placeK lt l k+1:=by rw[bA,if_pos hp];rfl
   simp only[e,eb];exact ih (by rw[e]at h;simpa using h)
  have e:(List.takeWhile (λp:K×V=>lt p.1 k) (p::l)).length=0:=by rw[bA,if_neg hp];rfl
  simp only[e,dz];simpa using hp
theorem sy(l:List (K×V))(k:K)(v:V):insL lt l k v=l.take (placeK lt l k)++(k,v)::(if(l[placeK lt l k]?).map (·.1)=X k then l.drop (placeK lt l k+1)else l.drop (placeK lt l k)):=by
 induction l with
 |nil=>rfl
 |cons p l ih=>
  unfold insL;by_cases hp:lt p.1 k=true
  .have e:placeK lt (p::l) k=placeK lt l k+1:=by unfold placeK;rw[bA,if_pos hp];rfl
   rw[if_pos hp,e,ih];rfl
  have e:placeK lt (p::l) k=0:=by unfold placeK;rw[bA,if_neg hp];rfl
  rw[if_neg hp,e];by_cases hk:p.1=k
  .rw[if_pos hk,if_pos (by simp[hk])];rfl
  rw[if_neg hk,if_neg (by simpa using hk)];rfl
theorem en(T:Tot lt){l:List (K×V)}(h:aH lt l)(k:K):findK l k=(l[placeK lt l k]?).bind λp=>if p.1=k then X p.2 else Y:=by
 induction l with
 |nil=>rfl
 |cons p l ih=>
  obtain⟨c,d⟩:=List.pairwise_cons.1 h;unfold findK;rw[cm];by_cases hp:lt p.1 k=true
  .have e:placeK lt (p::l) k=placeK lt l k+1:=by unfold placeK;rw[bA,if_pos hp];rfl
   have f:p.1≠k:=by intro e;rw[e,T.irr]at hp;cases hp
   rw[e];simp only[f,decide_false,List.getElem?_cons_succ];exact ih d
  have e:placeK lt (p::l) k=0:=by unfold placeK;rw[bA,if_neg hp];rfl
  rw[e];by_cases hk:p.1=k
  .simp[hk]
  simp only[hk,decide_false,List.getElem?_cons_zero,Option.bind_some,if_false];have:l.find? (λp=>decide (p.1=k))=Y:=by rw[cb];intro q g b;simp at b;have:=c q g;rw[b]at this;exact hp this
  rw[this];rfl
theorem qm(T:Tot lt){l:List (K×V)}(j:aH lt l)(k:K)(v:V)(q:K×V):q∈insL lt l k v↔q=(k,v)∨q∈l/\q.1≠k:=by
 induction l with
 |nil=>simp[insL]
 |cons p l ih=>
  obtain⟨d,f⟩:=List.pairwise_cons.1 j;have ih:=ih f;unfold insL;by_cases hp:lt p.1 k=true
  .have g:p.1≠k:=by intro e;rw[e,T.irr]at hp;cases hp
   rw[if_pos hp,bl,ih,bl];constructor
   .rintro(rfl|rfl|⟨h,b⟩)
    .exact .inr ⟨.inl rfl,g⟩
    .exact .inl rfl
    exact .inr ⟨.inr h,b⟩
   rintro(rfl|⟨rfl|h,b⟩)
   .exact .inr (.inl rfl)
   .exact .inl rfl
   exact .inr (.inr ⟨h,b⟩)
  have c:∀q∈l,q.1≠k:=λq i e=>hp (by have:=d q i;rw[e]at this;exact this);rw[if_neg hp];by_cases hk:p.1=k
  .rw[if_pos hk,bl,bl];constructor
   .rintro(h|h)
    .exact .inl h
    exact .inr ⟨.inr h,c q h⟩
   rintro(h|⟨rfl|h,b⟩)
   .exact .inl h
   .exact absurd hk b
   exact .inr h
  rw[if_neg hk,bl,bl];constructor
  .rintro(h|rfl|h)
   .exact .inl h
   .exact .inr ⟨.inl rfl,hk⟩
   exact .inr ⟨.inr h,c q h⟩
  rintro(h|⟨h,b⟩)
  .exact .inl h
  exact .inr h
theorem ff(T:Tot lt){l:List (K×V)}(f:aH lt l)(k:K)(v:V):aH lt (insL lt l k v):=by
 induction l with
 |nil=>exact List.pairwise_singleton _ _
 |cons p l ih=>
  obtain⟨c,d⟩:=List.pairwise_cons.1 f;unfold insL;by_cases hp:lt p.1 k=true
  .rw[if_pos hp];refine List.pairwise_cons.2 ⟨λq b=>?_,ih d⟩;rcases(qm T d k v q).1 b with rfl|⟨h,_⟩
   .exact hp
   exact c q h
  rw[if_neg hp];by_cases hk:p.1=k
  .rw[if_pos hk];exact List.pairwise_cons.2 ⟨λq b=>by have:=c q b;rw[hk]at this;exact this,d⟩
  rw[if_neg hk];have e:lt k p.1=true:=by rcases T.tot _ _ hk with h|h;exact absurd h hp;exact h
  exact List.pairwise_cons.2 ⟨λq b=>by
   rcases List.mem_cons.1 b with rfl|b
   .exact e
   exact T.tr _ _ _ e (c q b),f⟩
theorem pD(T:Tot lt){l:List (K×V)}(c:aH lt l):(l.map (·.1)).Nodup:=by
 rw[List.Nodup,bY];exact c.imp λ{a b}h e=>by rw[e,T.irr]at h;cases h
theorem zD(T:Tot lt){l:List (K×V)}(d:aH lt l)(k:K)(v:V):(l.filter (λp=> !decide (p.1=k))++[(k,v)]).Perm (insL lt l k v):=by
 have i:(insL lt l k v).Nodup:=(ff T d k v).imp λ{a b}h e=>by rw[e,T.irr]at h;cases h
 have g:l.Nodup:=d.imp λ{a b}h e=>by rw[e,T.irr]at h;cases h
 refine(dc ?_ i).2 λq=>?_
 .rw[List.nodup_append];refine⟨g.sublist e0,by simp,λa c b f e=>?_⟩;rw[e7]at f;rw[b9]at c;rw[e,f]at c;simp at c
 rw[qm T d,List.mem_append,b9,e7];simp only[b4,decide_eq_false_iff_not];constructor
 .rintro(h|h)
  .exact .inr h
  exact .inl h
 rintro(h|h)
 .exact .inr h
 exact .inl h
theorem fh(T:Tot lt){l:List (K×V)}(b:aH lt l){k:K}{v:V}:findK l k=X v↔(k,v)∈l:=by
 have hn:=pD T b;clear b;induction l with
 |nil=>simp[findK]
 |cons p l ih=>
  rw[b3,List.nodup_cons]at hn;have ih:=ih hn.2;unfold findK at ih ⊢;rw[cm];by_cases e:p.1=k
  .simp only[e,decide_true,Option.map_some,bk,bl];constructor
   .rintro rfl;exact .inl (by rw[<- e])
   rintro(h|h)
   .rw[<- h]
   exact absurd (List.mem_map.2 ⟨_,h,e.symm⟩) hn.1
  simp only[e,decide_false,bl];refine ih.trans ⟨.inr,?_⟩;rintro(h|h)
  .exact absurd (by rw[<- h]) e
  exact h
end
abbrev RK:=Int×Int
abbrev PK:=RK×RK
def ltRK(a b:RK):Bool:=decide (a.1<b.1)||(decide (a.1=b.1)&&decide (a.2<b.2))
def ltPK(x y:PK):Bool:=if x.1=y.1 then ltRK x.2 y.2 else ltRK x.1 y.1
theorem fM{a b:RK}:ltRK a b=true↔a.1<b.1∨a.1=b.1/\a.2<b.2:=by unfold ltRK;simp
theorem aY:Tot ltRK:=by
 refine⟨λa=>?_,λa b c f g=>?_,λa b h=>?_⟩
 .cases h:ltRK a a
  .rfl
  rw[fM]at h;omega
 .rw[fM]at*;omega
 rw[fM,fM];have:a.1≠b.1∨a.2≠b.2:=by
  rcases Classical.em (a.1=b.1)with e|e
  .exact .inr λd=>h (dx e d)
  exact .inl e
 omega
theorem dQ:Tot ltPK:=by
 refine⟨λa=>?_,λa b c g f=>?_,λa b h=>?_⟩
 .unfold ltPK;rw[if_pos rfl];exact aY.irr _
 .unfold ltPK at*;by_cases e1:a.1=b.1
  .rw[if_pos e1]at g;by_cases d:b.1=c.1
   .rw[if_pos d]at f;rw[if_pos (e1.trans d)];exact aY.tr _ _ _ g f
   rw[if_neg d]at f;rw[if_neg (e1▸d),e1];exact f
  rw[if_neg e1]at g;by_cases d:b.1=c.1
  .rw[if_neg (d▸e1),<- d];exact g
  rw[if_neg d]at f;have i:=aY.tr _ _ _ g f;rw[if_neg (by intro e;rw[e,aY.irr]at i;cases i)];exact i
 unfold ltPK;by_cases e:a.1=b.1
 .rw[if_pos e,if_pos e.symm];exact aY.tot _ _ λd=>h (dx e d)
 rw[if_neg e,if_neg (Ne.symm e)];exact aY.tot _ _ e
structure aB where
 vs:List (RK×(Int×aG))
 ds:List (RK×Int)
 ps:List (PK×(Int×Bool))
def cat0:aB:=⟨[],[],[]⟩
structure aB.Ok(d:aB):Prop where
 vs:aH ltRK d.vs
 ds:aH ltRK d.ds
 ps:aH ltPK d.ps
 apart:∀p∈d.ps,ltRK p.1.1 p.1.2=true
def bh(b c:Bool)(f e:Int)(d:Nat):Int:=
 if b&&c then 22 else if b&&decide (e<=f)then 30 else if !b&&decide (5000<=d)then 2 else 0
def putC(d:aB)(k:RK)(n:Int)(r:aG):aB×Int:=
 if wrongR r≠0 then(d,11)else
 let e:=match findK d.vs k with
  |some (n',r')=>bh true (decide (n'=n)&&decide (r'=r)) n' n d.vs
  |none=>bh false false 0 n d.vs
 if e=0 then({d with vs:=insL ltRK d.vs k (n,r)},0)else(d,e)
def dropC(d:aB)(k:RK)(n:Int):aB×Int:=
 let e:=match findK d.ds k with
  |some n'=>bh true (decide (n'=n)) n' n d.ds
  |none=>bh false false 0 n d.ds
 if e=0 then({d with ds:=insL ltRK d.ds k n},0)else(d,e)
def pairK(a b:RK):PK:=if ltRK b a then(b,a)else(a,b)
def decideC(d:aB)(a b:RK)(n:Int)(j:Bool):aB×Int:=
 if a=b then(d,1)else
 let e:=match findK d.ps (pairK a b)with
  |some (n',j')=>bh true (decide (n'=n)&&decide (j'=j)) n' n d.ps
  |none=>bh false false 0 n d.ps
 if e=0 then({d with ps:=insL ltPK d.ps (pairK a b) (n,j)},0)else(d,e)
def thereC(d:aB):List (RK×(Int×aG)):=d.vs.filter λp=>match findK d.ds p.1 with
 |some n=>decide (n<=p.2.1)
 |none=>true
def atC(l:List (RK×(Int×aG)))(k:RK):Option Nat:=l.findIdx? λp=>decide (p.1=k)
def keyC(l:List (RK×(Int×aG)))(i:Nat):RK:=(l.getD i ((0,0),(0,⟨0,0,[]⟩))).1
def jp(ps:List (PK×(Int×Bool)))(l:List (RK×(Int×aG)))(set:List Nat)(x y:Nat):Bool:=
 ps.any λp=> !p.2.2&&match atC l p.1.1,atC l p.1.2 with
  |some a,X b=>(decide (set.getD a 0=x)&&decide (set.getD b 0=y))||(decide (set.getD a 0=y)&&decide (set.getD b 0=x))
  |_,_=>false
def dn(ps:List (PK×(Int×Bool)))(l:List (RK×(Int×aG)))(set:List Nat)(a b:Nat):List Nat:=
 let x:=set.getD a 0
 let y:=set.getD b 0
 if x=y then set else if jp ps l set x y then set else set.map λz=>if z=x∨z=y then min x y else z
def joinedC(ps:List (PK×(Int×Bool)))(l:List (RK×(Int×aG))):List (Nat×Nat):=ps.filterMap λp=>
 if p.2.2 then match atC l p.1.1,atC l p.1.2 with
  |some a,X b=>X (a,b)
  |_,_=>Y
 else Y
def setsC(d:aB):List Nat:=
 (joinedC d.ps (thereC d)++pairsR ((thereC d).map λp=>p.2.2)).foldl (λset q=>dn d.ps (thereC d) set q.1 q.2) (bv (thereC d).length)
def sameC(d:aB):List (RK×RK):=(bv (thereC d).length).map λi=>(keyC (thereC d) i,keyC (thereC d) ((setsC d).getD i 0))
def bQ(d:aB):List RK:=((sameC d).filter λp=>decide (p.1=p.2)).map (·.1)
def titleC(d:aB)(k:RK):Option RK:=findK (sameC d) k
def membersC(d:aB)(t:RK):List RK:=((sameC d).filter λp=>decide (p.2=t)).map (·.1)
end
section
open Go.RowKit Go.Maps
section
variable {K:Type} [DecidableEq K]
theorem dD(p:K×aT)(l:List (K×aT))(k:K):lookL (p::l) k=if p.1=k then X p.2 else lookL l k:=by
 unfold lookL;rw[cm];by_cases h:p.1=k
 .rw[if_pos h];simp[h]
 rw[if_neg h];simp[h]
theorem mB(l:List (K×aT))(k j:K):lookL (cK l k) j=if j=k then Y else lookL l j:=by
 induction l with
 |nil=>unfold cK lookL;simp
 |cons p l ih=>
  unfold cK at ih ⊢;rw[cQ];by_cases h:p.1=k
  .rw[if_neg (by simp[h]),ih,dD];by_cases h2:j=k
   .rw[if_pos h2,if_pos h2]
   rw[if_neg h2,if_neg h2,if_neg (λe=>h2 (e.symm.trans h))]
  rw[if_pos (by simp[h]),dD,dD,ih];by_cases h2:j=k
  .rw[if_pos h2,if_pos h2,if_neg (λe=>h (e.trans h2))]
  rw[if_neg h2,if_neg h2]
theorem zt(l m:List (K×aT))(k:K):lookL (l++m) k=(lookL l k).or (lookL m k):=by
 induction l with
 |nil=>simp[lookL]
 |cons p l ih=> rw[c3,dD,dD,ih];split<;>simp
theorem dH(l:List (K×aT))(k:K)(v:aT)(j:K):lookL (putL l k v) j=if j=k then X v else lookL l j:=by
 unfold putL;rw[zt,mB,dD];by_cases h:j=k
 .rw[if_pos h,if_pos h,if_pos h.symm];rfl
 rw[if_neg h,if_neg h,if_neg (λe=>h e.symm)];simp[lookL]
theorem rU{l:List (K×aT)}{k:K}:(lookL l k).isSome=true↔k∈l.map (·.1):=by
 induction l with
 |nil=>simp[lookL]
 |cons p l ih=>
  rw[dD,b3,bl];by_cases h:p.1=k
  .simp[h]
  rw[if_neg h,ih];exact⟨.inr,λb=>b.resolve_left (λe=>h e.symm)⟩
theorem BZ(l:List (K×aT))(k:K):(cK l k).length<=l:=b5 _ _
theorem A0(l:List (K×aT))(k:K)(v:aT):(putL l k v).length<=l+1:=by
 unfold putL;rw[b0];have:=BZ l k;simp;omega
end
end
section
open Go.RowKit Go.Maps Go.WideShapes Go.WideElems
open Go.ChangeMaps (setBlock heap_setBlock_same heap_setBlock_other)
set_option linter.unusedSectionVars false
section
variable {P:da} {kt:b2} {K:Type} [DecidableEq K] {B:eJ P kt K}
theorem iJ{w:aS}{b:Nat}{d:Array MapEntry}{c:Nat}(e:w.heap[b]?=X (.map d c))(o:Obj):aF b w (setBlock w b o):=
 ⟨rfl,rfl,rfl,by simp[setBlock],λ_ f=>heap_setBlock_other e o f⟩
theorem an.entry{w:aS}{b:Nat}{l:List (K×aT)}(h:an B w b l)(KL:WideMaps.KeyLaw P kt){t e:b2}(ht:P.underlying t=X (.map kt e)){z:aT}(hz:∀u:aS,(zeroValue e).run P u=.ok z u)(k:K)(H:B.ok k)(hn:l<maxLen):
 ∃(s:Nat)(c:Array MapEntry)(c1:Nat),(Instr.mapEntry t (aC (X b)) (B.kv k)).run P w=.ok (.tuple #[(lookL l k).getD z,s]) (setBlock w b (.map c c1))/\
  (setBlock w b (.map c c1)).heap[b]?=X (.map c c1)/\aF b w (setBlock w b (.map c c1))/\
  ∀(i:aS)(val:aT),i.heap[b]?=X (.map c c1)->∃N,(Instr.entryStore t (aC (X b)) s val).run P i=.ok () N/\an B N b (putL l k val)/\aF b i N:=by
 have a4:=h.nodup;obtain⟨C,R,D,T⟩:=h;obtain⟨a1,ac,j,F,al,E⟩:=id R;have n:=B.key k H;obtain⟨A,s,c,c1,a7,a3,a8⟩:=entry_then_store KL ht hz j F n;have a0:C.Perm (a1.toList.map (rg P kt heldR)):=by
  injection E with E
  rw[E];exact sorted_perm _
 have a9:A=(lookL l k).getD z:=by
  rcases a3 with⟨O,W,a2,G⟩|⟨a5,G⟩
  .obtain⟨y,g⟩:=F.reads O W;obtain⟨q,hq,a6⟩:=rd_val g;have f:=rd_key g;rw[a2,n]at f;injection f with f
   simp only[heldR,bk]at hq;have aa:y=(B.kl k,.held A):=dx f.symm (by rw[a6,<- hq,G]);have I:(B.kl k,DataW.held A)∈C:=a0.mem_iff.2 (List.mem_map.2 ⟨O,W,by rw[rg_of g,aa]⟩);obtain⟨p,hp,m⟩:=List.mem_map.1 (D.mem_iff.1 I);injection m with e1 e2
   injection e2 with e2
   have e3:=B.lit_inj (T p hp) H e1;have:lookL l k=X A:=(bC a4).2 (by rw[<- e3,<- e2];exact hp);rw[this];rfl
  have:lookL l k=Y:=ix.2 λv hv=>by have I:(B.kl k,DataW.held v)∈C:=D.mem_iff.2 (List.mem_map.2 ⟨_,hv,rfl⟩);obtain⟨x,hx,m⟩:=List.mem_map.1 (a0.mem_iff.1 I);obtain⟨y,g⟩:=F.reads x hx;rw[rg_of g]at m;have f:=rd_key g;rw[m]at f;exact a5 x hx (B.keyed.inj f n)
  rw[this];exact G
 refine⟨s,c,c1,by rw[a7,a9];rfl,heap_setBlock_same j _,iJ j _,λi val M=>?_⟩;obtain⟨ad,c2,hs,hu⟩:=a8 i val M;refine⟨_,hs,?_,iJ M _⟩;obtain⟨w',r,ho,_⟩:=R.store B.keyed ht hn n (val:=val) (d:=.held val) (ps:=[]) rfl;rw[hu]at r;injection r with _ r
 subst r;have:=an.put_of D T H val ho;exact this.block (by rw[heap_setBlock_same M,heap_setBlock_same j])
end
section
variable {P:da} {o:Oper} {a:Act} {K:Act->aS->Prop} {Q:Exit->Act->aS->Prop} {w:aS}
theorem bH{t:b2}{m x:e5}(c:o.op=Op.mapEntry t m x){v:aT}{w':aS}(d:(Instr.mapEntry t (a.eval m) (a.eval x)).run P w=.ok v w')(b:K (a.put o.dst v) w'):o.wp P a w K Q:=by
 unfold Oper.wp;simp[execOp,c,d,c6];exact b
theorem bj{t:b2}{m s x:e5}(c:o.op=Op.entryStore t m s x){w':aS}(d:(Instr.entryStore t (a.eval m) (a.eval s) (a.eval x)).run P w=.ok () w')(b:K (a.put o.dst undef) w'):o.wp P a w K Q:=by
 unfold Oper.wp;simp[execOp,c,d,c6];exact b
end
end
section
open Go.RowKit
def rec0:aG:=⟨0,0,[]⟩
theorem oB(l:List aG)(i k:Nat):(i,k)∈pairsR l↔i<k/\k<l/\gl (l.getD i rec0) (l.getD k rec0)=true:=by
 unfold pairsR bW;simp only[List.mem_flatMap,List.mem_range,List.mem_map,b9,bB,decide_eq_true_eq,cd,rec0];constructor
 .rintro⟨a,g,b,⟨f,c,d⟩,rfl,rfl⟩;exact⟨c,f,d⟩
 rintro⟨c,d,e⟩;exact⟨i,by omega,k,⟨d,c,e⟩,rfl,rfl⟩
def ltNN(a b:Nat×Nat):Bool:=decide (a.1<b.1)||(decide (a.1=b.1)&&decide (a.2<b.2))
theorem jH{a b:Nat×Nat}:ltNN a b=true↔a.1<b.1∨a.1=b.1/\a.2<b.2:=by unfold ltNN;simp
theorem pT(l:List aG):(pairsR l).Pairwise λa b=>ltNN a b=true:=by
 unfold pairsR;rw[List.flatMap,List.pairwise_flatten];constructor
 .intro x e;obtain⟨i,_,rfl⟩:=List.mem_map.1 e;unfold bW;rw[bY];refine(List.Pairwise.filter _ List.pairwise_lt_range).imp ?_;intro a b h;rw[jH];exact .inr ⟨rfl,h⟩
 rw[bY];refine List.pairwise_lt_range.imp ?_;intro a b h x e y f;unfold bW at e f;obtain⟨c,_,rfl⟩:=List.mem_map.1 e;obtain⟨d,_,rfl⟩:=List.mem_map.1 f;rw[jH];exact .inl h
theorem ox(l:List aG):(pairsR l).length<=l*l:=by
 unfold pairsR;rw[List.length_flatMap];have h:∀(m:List Nat),(m.map λi=>(bW l l i).length).sum<=m*l:=by
  intro m;induction m with
  |nil=>simp
  |cons a m ih=>
   have:(bW l l a).length<=l:=by unfold bW;rw[cl];exact cp (b5 _ _) (by simp)
   simp only[b3,List.sum_cons,b7,Nat.add_mul];omega
 simpa using h (bv l)
def cameR(l:List aG)(n:Nat)(b:List Bs)(p:Nat×Nat):Bool:=
 decide (p.1<p.2)&&((decide (p.2<n)&&(rawR (l.getD p.1 rec0).fields).any (rawR (l.getD p.2 rec0).fields).contains)||(decide (p.2=n)&&b.any (rawR (l.getD p.1 rec0).fields).contains))
theorem uV(l:List aG)(o:List (Nat×Nat))(h:∀p,p∈o↔cameR l l [] p=true/\40<=pointsR (l.getD p.1 rec0) (l.getD p.2 rec0))(p:Nat×Nat):p∈o↔p∈pairsR l:=by
 rw[h,show p=(p.1,p.2)from rfl,oB];unfold cameR gl;simp;constructor
 .rintro⟨⟨b,c,d⟩,e⟩;exact⟨b,c,d,e⟩
 rintro⟨b,c,d,e⟩;exact⟨⟨b,c,d⟩,e⟩
end
section
open Go.RowKit
abbrev VL:=List (RK×(Int×aG))
theorem cD{L:VL}{i:Nat}(h:i<L.length):keyC L i=L[i].1:=by
 unfold keyC;rw[ca,dq h];rfl
section
variable {L:VL}
theorem je(d:aH ltRK L){i j:Nat}(c:i<j)(b:j<L.length):ltRK (keyC L i) (keyC L j)=true:=by
 rw[cD (show i<L.length by omega),cD b];exact List.pairwise_iff_getElem.1 d i j (by omega) b c
theorem uB(c:aH ltRK L){i j:Nat}(d:i<L.length)(e:j<L.length):ltRK (keyC L i) (keyC L j)=true↔i<j:=by
 constructor
 .intro h;rcases Nat.lt_trichotomy i j with b|b|b
  .exact b
  .subst b;rw[aY.irr]at h;cases h
  rw[aY.asym (je c b d)]at h;cases h
 exactλh=>je c h e
theorem cY(c:aH ltRK L){i j:Nat}(d:i<L.length)(e:j<L.length)(h:keyC L i=keyC L j):i=j:=by
 rcases Nat.lt_trichotomy i j with b|b|b
 .have:=je c b e;rw[h,aY.irr]at this;cases this
 .exact b
 have:=je c b d;rw[h,aY.irr]at this;cases this
theorem at_some{k:RK}{i:Nat}(h:atC L k=X i):i<L.length/\keyC L i=k:=by
 unfold atC at h;rw[List.findIdx?_eq_some_iff_getElem]at h;obtain⟨b,c,_⟩:=h;exact⟨b,by rw[cD b];simpa using c⟩
theorem at_none{k:RK}(h:atC L k=Y)(i:Nat)(b:i<L.length):keyC L i≠k:=by
 unfold atC at h;rw[List.findIdx?_eq_none_iff]at h;have:=h L[i] (cP b);rw[cD b];simpa using this
theorem fD(c:aH ltRK L){i:Nat}(b:i<L.length):atC L (keyC L i)=X i:=by
 cases h:atC L (keyC L i)with
 |none=>exact absurd rfl (at_none h i b)
 |some j=>rw[cY c (at_some h).1 b (at_some h).2]
end
structure cw(n:Nat)(set:List Nat):Prop where
 len:set=n
 le:∀i,i<n->set.getD i 0<=i
 rep:∀i,i<n->set.getD (set.getD i 0) 0=set.getD i 0
theorem cw.range(n:Nat):cw n (bv n):=by
 have h:∀i,i<n->(bv n).getD i 0=i:=λi b=>by simp[ca,b]
 exact⟨by simp,λi b=>by rw[h i b];exact cu _,λi b=>by rw[h i b,h i b]⟩
theorem cw.lt{n:Nat}{set:List Nat}(h:cw n set){i:Nat}(b:i<n):set.getD i 0<n:=Nat.lt_of_le_of_lt (h.le i b) b
def mergeS(set:List Nat)(x y:Nat):List Nat:=set.map λz=>if z=x∨z=y then min x y else z
theorem cO{set:List Nat}{x y i:Nat}(b:i<set):(mergeS set x y).getD i 0=if set.getD i 0=x∨set.getD i 0=y then min x y else set.getD i 0:=by
 unfold mergeS;simp[ca,dq b]
theorem uo(set:List Nat)(x y:Nat):mergeS set x y=mergeS set y x:=by
 unfold mergeS;refine List.map_congr_left λz _=>?_;by_cases h:z=x∨z=y
 .rw[if_pos h,if_pos h.symm,Nat.min_comm]
 rw[if_neg h,if_neg (λb=>h b.symm)]
theorem cw.merge{n:Nat}{set:List Nat}(h:cw n set){x y:Nat}(k:x<n)(l:y<n)(g:set.getD x 0=x)(j:set.getD y 0=y):cw n (mergeS set x y):=by
 refine⟨by unfold mergeS;rw[cl,h.len],λi c=>?_,λi c=>?_⟩
 .rw[cO (by rw[h.len];exact c)];have:=h.le i c;split
  .rename_i b;rcases b with b|b<;>omega
  exact this
 have e:=cO (set:=set) (x:=x) (y:=y) (i:=i) (by rw[h.len];exact c);rw[e];by_cases b:set.getD i 0=x∨set.getD i 0=y
 .rw[if_pos b];have f:min x y<n:=by omega
  rw[cO (by rw[h.len];exact f)];rcases Nat.le_total x y with d|d
  .rw[Nat.min_eq_left d,g,if_pos (.inl rfl)]
  rw[Nat.min_eq_right d,j,if_pos (.inr rfl)]
 rw[if_neg b,cO (by rw[h.len];exact h.lt c),h.rep i c,if_neg b]
theorem lR(ps:List (PK×(Int×Bool)))(l:VL)(set:List Nat)(a b:Nat):dn ps l set a b=if set.getD a 0=set.getD b 0 then set else if jp ps l set (set.getD a 0) (set.getD b 0)then set else mergeS set (set.getD a 0) (set.getD b 0):=rfl
theorem cw.unite{n:Nat}{set:List Nat}(h:cw n set)(ps:List (PK×(Int×Bool)))(l:VL){a b:Nat}(c:a<n)(d:b<n):cw n (dn ps l set a b):=by
 rw[lR];split
 .exact h
 split
 .exact h
 exact h.merge (h.lt c) (h.lt d) (h.rep a c) (h.rep b d)
def bg(L:VL)(set:List Nat)(t:Nat):List RK:=((bv L.length).filter λi=>decide (set.getD i 0=t)).map (keyC L)
theorem bn{L:VL}{set:List Nat}{t:Nat}{k:RK}:k∈bg L set t↔∃i,i<L.length/\set.getD i 0=t/\keyC L i=k:=by
 unfold bg;simp only[List.mem_map,b9,List.mem_range,decide_eq_true_eq,and_assoc]
theorem jP{L:VL}(k:aH ltRK L)(set:List Nat)(t:Nat):(bg L set t).Pairwise λa b=>ltRK a b=true:=by
 unfold bg;rw[bY];have d:((bv L.length).filter λi=>decide (set.getD i 0=t)).Pairwise (λi j=>i<j/\j<L.length):=by
  have e:(bv L.length).Pairwise (λi j=>i<j/\j<L.length):=by rw[List.pairwise_iff_getElem];intro i j f c g;simp at f c;simp;exact⟨g,c⟩
  exact e.filter _
 exact d.imp λ{i j}h=>je k h.1 h.2
theorem ij{L:VL}(c:aH ltRK L)(set:List Nat)(t:Nat):(bg L set t).Nodup:=(jP c set t).imp λ{a b}h e=>by rw[e,aY.irr]at h;cases h
theorem kH(L:VL)(set:List Nat)(t:Nat):(bg L set t).length<=L.length:=by
 unfold bg;rw[cl];exact cp (b5 _ _) (by simp)
theorem mU{L:VL}{set:List Nat}{t:Nat}(b:t<L.length)(c:set.getD t 0=t):bg L set t≠[]:=λe=>by
 have:=(bn (L:=L) (set:=set)).2 ⟨t,b,c,rfl⟩;rw[e]at this;cases this
theorem sY{L:VL}{set:List Nat}(c:set=L.length){x y t:Nat}(e:t≠x)(f:t≠y):bg L (mergeS set x y) t=bg L set t:=by
 unfold bg;congr 1
 refine cy λi b=>?_;rw[cO (by rw[c];simpa using b)];have d:min x y≠t:=by omega
 split
 .rename_i h;rw[decide_eq_false d];symm;rw[decide_eq_false_iff_not];omega
 rfl
theorem xU{L:VL}(g:aH ltRK L){set:List Nat}(v:set=L.length){x y:Nat}(u:x≠y){l ys:List RK}(m:l.Perm (bg L set x))(n:ys.Perm (bg L set y)):
 (l++ys).Perm (bg L (mergeS set x y) (min x y)):=by
 refine(m.append n).trans ?_;refine(dc ?_ (ij g _ _)).2 λk=>?_
 .rw[List.nodup_append];refine⟨ij g _ _,ij g _ _,λa r b s e=>?_⟩;obtain⟨i,f,c,d⟩:=bn.1 r;obtain⟨j,t,p,q⟩:=bn.1 s;have:=cY g f t (by rw[d,q,e]);subst this;exact u (c.symm.trans p)
 rw[List.mem_append,bn,bn,bn];constructor
 .rintro(⟨i,f,c,d⟩|⟨i,f,c,d⟩)
  .exact⟨i,f,by rw[cO (by omega),if_pos (.inl c)],d⟩
  exact⟨i,f,by rw[cO (by omega),if_pos (.inr c)],d⟩
 rintro⟨i,f,c,d⟩;rw[cO (by omega)]at c;by_cases h:set.getD i 0=x∨set.getD i 0=y
 .exact h.imp (λh=>⟨i,f,h,d⟩) (λh=>⟨i,f,h,d⟩)
 rw[if_neg h]at c;exact absurd (show set.getD i 0=x∨set.getD i 0=y by omega) h
theorem uj(a b:RK)(h:a≠b):pairK a b=pairK b a:=by
 unfold pairK;rcases aY.tot a b h with c|c
 .rw[if_neg (by rw[aY.asym c];decide),if_pos c]
 rw[if_pos c,if_neg (by rw[aY.asym c];decide)]
theorem zi{p:PK}(h:ltRK p.1 p.2=true):pairK p.1 p.2=p/\pairK p.2 p.1=p:=by
 have b:pairK p.1 p.2=p:=by unfold pairK;rw[if_neg (by rw[aY.asym h];decide)]
 refine⟨b,?_⟩;rw[uj _ _ (λe=>by rw[e,aY.irr]at h;cases h)];exact b
def jo(ps:List (PK×(Int×Bool)))(b ys:List RK):Bool:=b.any λr=>ys.any λs=>match findK ps (pairK r s)with
 |some (_,false)=>true
 |_=>false
theorem jm{ps:List (PK×(Int×Bool))}{d ys:List RK}:jo ps d ys=true↔∃r∈d,∃s∈ys,∃n,findK ps (pairK r s)=X (n,false):=by
 unfold jo;simp only[ci];constructor
 .rintro⟨r,b,s,c,h⟩;refine⟨r,b,s,c,?_⟩;split at h
  .exact⟨_,by assumption⟩
  cases h
 rintro⟨r,b,s,c,n,h⟩;exact⟨r,b,s,c,by rw[h]⟩
theorem Au{ps:List (PK×(Int×Bool))}(v:aH ltPK ps)(E:∀p∈ps,ltRK p.1.1 p.1.2=true){L:VL}(l:aH ltRK L){set:List Nat}{x y:Nat}{C ys:List RK}(m:C.Perm (bg L set x))(q:ys.Perm (bg L set y)):
 jp ps L set x y=jo ps C ys:=by
 rw[c9,jm];unfold jp;rw[ci];constructor
 .rintro⟨p,A,h⟩;rw[bB]at h;obtain⟨f,h⟩:=h;have f:p.2.2=false:=by simpa using f
  obtain⟨H,I⟩:=zi (E p A);have k:findK ps p.1=X (p.2.1,false):=by rw[fh dQ v,<- f];exact A
  split at h
  .rename_i a b d e;have d:=at_some d;have e:=at_some e;simp only[c7,bB,decide_eq_true_eq]at h;rcases h with⟨c,g⟩|⟨c,g⟩
   .exact⟨p.1.1,m.mem_iff.2 (bn.2 ⟨a,d.1,c,d.2⟩),p.1.2,q.mem_iff.2 (bn.2 ⟨b,e.1,g,e.2⟩),p.2.1,by rw[H];exact k⟩
   exact⟨p.1.2,m.mem_iff.2 (bn.2 ⟨b,e.1,g,e.2⟩),p.1.1,q.mem_iff.2 (bn.2 ⟨a,d.1,c,d.2⟩),p.2.1,by rw[I];exact k⟩
  cases h
 rintro⟨r,F,s,G,n,k⟩;obtain⟨i,u,c,g⟩:=bn.1 (m.mem_iff.1 F);obtain⟨j,f,t,D⟩:=bn.1 (q.mem_iff.1 G);rw[fh dQ v]at k;refine⟨_,k,?_⟩;subst g;subst D;unfold pairK;split
 .dsimp only;rw[fD l u,fD l f];simp only[c,t];simp
 dsimp only;rw[fD l u,fD l f];simp only[c,t];simp
theorem lz(d:aB):sameC d=(bv (thereC d).length).map λi=>(keyC (thereC d) i,keyC (thereC d) ((setsC d).getD i 0)):=rfl
theorem sE{n:Nat}(ps:List (PK×(Int×Bool)))(l:VL):∀(b:List (Nat×Nat))(set:List Nat),cw n set->(∀q∈b,q.1<n/\q.2<n)->cw n (b.foldl (λset q=>dn ps l set q.1 q.2) set)
 |[],_,h,_=>h
 |q::b,_,h,hq=>sE ps l b _ (h.unite ps l (hq q bs).1 (hq q bs).2) λp c=>hq p (b8 _ c)
theorem xo{ps:List (PK×(Int×Bool))}{l:VL}:∀q∈joinedC ps l,q.1<l/\q.2<l:=by
 intro q c;unfold joinedC at c;obtain⟨p,_,h⟩:=List.mem_filterMap.1 c;split at h
 .split at h
  .rename_i a b d e;injection h with h
   subst h;exact⟨(at_some d).1,(at_some e).1⟩
  cases h
 cases h
theorem mw{l:List aG}:∀q∈pairsR l,q.1<l/\q.2<l:=by
 intro q b;have:=(oB l q.1 q.2).1 b;exact⟨by omega,this.2.1⟩
theorem jy(d:aB):cw (thereC d).length (setsC d):=by
 unfold setsC;refine sE _ _ _ _ (cw.range _) λq b=>?_;rcases List.mem_append.1 b with h|h
 .exact xo q h
 have:=mw q h;simpa using this
theorem cW{d:aB}(h:d.Ok):aH ltRK (thereC d):=h.vs.filter _
theorem nV{d:aB}(h:d.Ok):bQ d=((bv (thereC d).length).filter λi=>decide ((setsC d).getD i 0=i)).map (keyC (thereC d)):=by
 unfold bQ;rw[lz,List.filter_map,List.map_map];congr 1
 refine cy λi b=>?_;have b:i<(thereC d).length:=by simpa using b
 simp only[Function.comp];rw[c9,decide_eq_true_eq,decide_eq_true_eq];exact⟨λe=>(cY (cW h) b ((jy d).lt b) e).symm,λe=>by rw[e]⟩
theorem qZ{d:aB}(h:d.Ok)(k:RK):titleC d k=(atC (thereC d) k).map λi=>keyC (thereC d) ((setsC d).getD i 0):=by
 unfold titleC findK;rw[lz];cases c:atC (thereC d) k with
 |none=>
  have:(List.find? (λp:RK×RK=>decide (p.1=k)) ((bv (thereC d).length).map λi=>(keyC (thereC d) i,keyC (thereC d) ((setsC d).getD i 0))))=Y:=by rw[cb];intro p m;obtain⟨i,e,rfl⟩:=List.mem_map.1 m;simpa using at_none c i (by simpa using e)
  rw[this];rfl
 |some i=>
  obtain⟨e,l⟩:=at_some c;have g:findK ((bv (thereC d).length).map λi=>(keyC (thereC d) i,keyC (thereC d) ((setsC d).getD i 0))) k=X (keyC (thereC d) ((setsC d).getD i 0)):=by
   have n:aH ltRK ((bv (thereC d).length).map λi=>(keyC (thereC d) i,keyC (thereC d) ((setsC d).getD i 0))):=by unfold aH;rw[bY];rw[List.pairwise_iff_getElem];intro a b c f j;simp at c f;simp only[List.getElem_range];exact je (cW h) j f
   rw[fh aY n];exact List.mem_map.2 ⟨i,by simpa using e,by rw[l]⟩
  unfold findK at g;rw[g];rfl
theorem rS{d:aB}(h:d.Ok){t:Nat}(c:t<(thereC d).length):membersC d (keyC (thereC d) t)=bg (thereC d) (setsC d) t:=by
 unfold membersC bg;rw[lz,List.filter_map,List.map_map];congr 1
 refine cy λi b=>?_;have b:i<(thereC d).length:=by simpa using b
 simp only[Function.comp];rw[c9,decide_eq_true_eq,decide_eq_true_eq];exact⟨λe=>cY (cW h) ((jy d).lt b) c e,λe=>by rw[e]⟩
theorem pY{d:aB}{k:RK}(c:∀t,t<(thereC d).length->(setsC d).getD t 0=t->keyC (thereC d) t≠k):membersC d k=[]:=by
 unfold membersC;rw[List.map_eq_nil_iff,List.filter_eq_nil_iff,lz];intro p e;obtain⟨i,b,rfl⟩:=List.mem_map.1 e;have b:i<(thereC d).length:=by simpa using b
 simpa using c _ ((jy d).lt b) ((jy d).rep i b)
end
end Go.Proofs.YtjcimanddakkaaaGreatDoor
