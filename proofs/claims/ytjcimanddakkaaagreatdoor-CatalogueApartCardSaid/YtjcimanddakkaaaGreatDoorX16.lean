/- Lemmas. -/
import Derived.Test.YtjcimanddakkaaaGreatDoorX0
import Derived.Test.YtjcimanddakkaaaGreatDoorX1
import Derived.Test.YtjcimanddakkaaaGreatDoorX2
import Derived.Test.YtjcimanddakkaaaGreatDoorX3
import Derived.Test.YtjcimanddakkaaaGreatDoorX10
import Derived.Test.YtjcimanddakkaaaGreatDoorX11
import Derived.Test.YtjcimanddakkaaaGreatDoorX12
import Derived.Test.YtjcimanddakkaaaGreatDoorX15
import Derived.WalkMore
import Derived.Lib.TrimAscii
import Derived.Tactics2
import Derived.Laws.Pointers
import Derived.Laws.LoneSync
import Derived.RegionCalls
import Derived.ChangeAlike
import Derived.Laws.NewBlocks
import Derived.Lib.CountLaws
import Derived.Laws.CopyRow
import Derived.Lib.ConvBytes
import Derived.Laws.MakeOwn
import Derived.Lib.IndexAny
set_option maxRecDepth 100000
set_option maxHeartbeats 8000000
namespace Go.Proofs.YtjcimanddakkaaaGreatDoor
open Go.Lib renaming hid→a0a,indexByte→a04,compact→a05,putRow_eq_setCells→a1q,trimS→a1s,run_next_end_at→a1x,run_next_any_at→a1y
open Go.Proofs.Tryz renaming prog→a0b
open Go.Calls renaming mono→a0c
open _root_.Nat renaming le_refl→a0d,le_trans→a0t,zero_le→a0y,zero_add→a0X,mul_le_mul→a0Z,one_pos→a02
open Go.RowKit renaming Below→a0e
open _root_.List renaming length_append→a0f,length_cons→a0i,length_take→a0k,length_drop→a0o,take_of_length_le→a0v,filter_cons→a0w,length_map→a0z,replicate→a0A,drop_of_length_le→a0B,map_append→a0C,map_cons→a0E,mem_cons_of_mem→a0G,takeWhile_cons→a0I,sum_cons→a0K,mem_cons_self→a0L,take_succ_eq_append_getElem→a0M,getElem_mem→a0O,length_nil→a0S,append_nil→a0T,getD_eq_getElem?_getD→a0W,drop_eq_getElem_cons→a0Y,length→a00,all_eq_true→a03,take_succ_cons→a09,getD_cons_succ→a1a,filter_append→a1c,eq_nil_of_length_eq_zero→a1e,map→a1f,nil_append→a1g,getElem?_eq_getElem→a1l,take_append_drop→a1n,length_singleton→a1o,length_filter_le→a1p,mem_of_mem_take→a1r,getD_cons_zero→a1u,map_singleton→a1w
open Go.RowKit.Below renaming refl→a0g,heap_alloc→a0n,heap_setCell→a0J
open Go.World renaming alloc_heap_new→a0h,size_alloc→a0r,cell?_alloc_new→a06,iterPos→a1b,ownsRow_nil→a1d
open Go renaming World→a0j,Calls→a0p,rounds_succ→a0q,Value→a0u,wp_loop_rounds→a0P,bodyPost_ret→a0Q,wpList_append_own_at→a0V,info_parts→a1i
open _root_.Array renaming getElem?_setIfInBounds_ne→a0l,getElem?_append_left→a0U,getElem?_eq_none→a1m,length_toList→a1t
open _root_.UInt8 renaming ofNat→a0m,ofNat_toNat→a1v
open Go.Utf8 renaming decode→a0s,encode→a0R
open _root_.Int renaming tmod_eq_emod_of_nonneg→a0x
open Go.Exit renaming noGoto_ret→a0D
open Go.IntWalk renaming i64_in→a0F
open Go.Value renaming string→a0H,oneCell'→a0N,int→a07,slice→a08,ownBlock→a1j
open Go.World.ownsRow renaming form→a01
open _root_.Bool renaming eq_iff_iff→a1h
open Go.Instr renaming next→a1k
section
open Go.RowKit Go.Maps Go.Shelf Go.Lib Go.Sort
theorem xI (s:Bs):encStr s=S s:=rfl
theorem gD {lo g c n:Nat} {w:a0j} {a:List Bs} (h:w.ownsRow lo 9 1 (.slice (some ⟨g,0,none⟩) n c) n (a.map λs=>S s)):Holds encStr w g 0 a.toArray:=by
 intro j b;have d:j<a.length:=by simpa using b
 rw [a0X];refine ⟨?_,h.frozenAt j⟩;rw [h.cellAt j (by have:=h.1;simp at this;omega),getElem!_pos a.toArray j b];simp [d,xI]
theorem kF (lo:Nat) (w:a0j) (v:a0u) (a:List Bs) (h:w.ownsRow lo 9 1 v a.length (a.map λs=>S s)) (A:a.length<=4000000000000):
 a0p a0b 186 #[v] w λe w'=>e= .returned (.tuple #[])/\w'.ownsRow lo 9 1 v a.length ((a.mergeSort λx y=>decide (x<=y)).map λs=>S s)/\a0e lo w w'/\∀q,q<w.heap.size->v.ownBlock≠some q->w'.heap[q]? =w.heap[q]? :=by
 rcases h.2 with ⟨rfl,p⟩|⟨g,i,z,rfl,_⟩
 · have u:a=[]:=a1e p;subst u;refine (slices_Sort_string_none none 0 w).mono ?_;rintro e w' ⟨rfl,rfl⟩;exact ⟨rfl,by simpa using h,a0g _ _,λ_ _ _=>rfl⟩
 · have k:=h.lt g (by simp [a1j]);refine (slices_Sort_string g 0 i a w (gD h) k.2 (by omega)).mono ?_;rintro e w' ⟨rfl,n,o,rfl⟩;refine ⟨rfl,?_⟩;obtain ⟨ys,l⟩:∃ys,(a.mergeSort λx y=>decide (x<=y))=ys:=⟨_,rfl⟩;have f:ys.length=a.length:=by rw [<- l];exact List.length_mergeSort _
   rw [l,a1q encStr w g 0 a.toArray ys n (gD h) (by simpa using f)];have r:(w.drewN n).ownsRow lo 9 1 (.slice (some ⟨g,0,none⟩) a.length i) a.length (a.map λs=>S s):=h;obtain ⟨j,c⟩:=cJ (ys.map encStr) 0 (w.drewN n) (a.map λs=>S s) r (by simp [f]);rw [List.take_zero,a1g,a0X,a0B (by simp [f]),a0T] at j;have m:((w.drewN n).setCells g 0 (ys.map encStr)).heap.size=w.heap.size:=c.size;have d:∀q,q<w.heap.size->(Sort.grow ((w.drewN n).setCells g 0 (ys.map encStr)) o).heap[q]? =((w.drewN n).setCells g 0 (ys.map encStr)).heap[q]? :=λq b=>by show (((w.drewN n).setCells g 0 (ys.map encStr)).heap++o)[q]? =_;rw [a0U (by rw [m];exact b)]
   refine ⟨ah j (λq b=>?_),⟨c.os,c.tape,c.output,by rw [Sort.size_grow,m];omega,λq b=>?_⟩,λq b t=>(d q b).trans (c.block q (λe=>t (by rw [e];rfl)))⟩
   · simp [a1j] at b;subst b;exact d _ k.2
   · rw [d q (by omega)];exact c.block q (by omega)
theorem jO (zs:List Bs):(a05 zs).length<=zs.length:=by
 unfold a05 Lib.compactUpTo;rw [a0z];refine a0t (a1p _ _) ?_;simp
theorem yw {lo e g a n:Nat} {w:a0j} {c:List a0u} (h:w.ownsRow lo e 1 (.slice (some ⟨g,0,none⟩) n a) n c) (m:Nat) (o:m<=n):w.ownsRow lo e 1 (.slice (some ⟨g,0,none⟩) m a) m (c.take m):=by
 obtain ⟨r,⟨b,_⟩|⟨q,p,d,b,f,i,s,j,k,l⟩⟩:=h
 · cases b
 · injection b with a1 a2 a3
   injection a1 with a1
   injection a1 with a1
   subst a1 a3;refine ⟨by rw [a0k];omega, .inr ⟨g,a,d,rfl,f,i,by omega,j,k,?_⟩⟩;rw [<- l,List.take_take,Nat.mul_one,Nat.mul_one,Nat.min_eq_left o]
theorem gr (lo:Nat) (w:a0j) (v:a0u) (a:List Bs) (h:w.ownsRow lo 9 1 v a.length (a.map λs=>S s)) (x:a.length<=4000000000000):
 a0p a0b 187 #[v] w λe w'=>∃i,e= .returned i/\w'.ownsRow lo 9 1 i (a05 a).length ((a05 a).map λs=>S s)/\a0e lo w w'/\∀q,q<w.heap.size->v.ownBlock≠some q->w'.heap[q]? =w.heap[q]? :=by
 rcases h.2 with ⟨rfl,j⟩|⟨g,c,t,rfl,_,_,l,_⟩
 · have r:a=[]:=a1e j;subst r;refine (slices_Compact_string_empty none 0 w).mono ?_;rintro e w' ⟨rfl,rfl⟩;exact ⟨_,rfl,(by have e:a05 ([]:List Bs)=[]:=rfl;rw [e];exact h),a0g _ _,λ_ _ _=>rfl⟩
 · have u:=h.lt g (by simp [a1j]);refine (slices_Compact_string g 0 c a w (gD h) (by omega) l).mono ?_;rintro e w' ⟨rfl,n,rfl⟩;obtain ⟨ys,f⟩:∃ys,a05 a=ys:=⟨_,rfl⟩;have m:ys.length<=a.length:=by rw [<- f];exact jO a
   rw [f];refine ⟨_,rfl,?_⟩;rw [a1q encStr w g 0 a.toArray _ n (gD h) (by simp;omega)];have k:(w.drewN n).ownsRow lo 9 1 (.slice (some ⟨g,0,none⟩) a.length c) a.length (a.map λs=>S s):=h;obtain ⟨d,b⟩:=cJ ((ys++a0A (a.length - ys.length) []).map encStr) 0 (w.drewN n) (a.map λs=>S s) k (by simp;omega);rw [List.take_zero,a1g,a0X,a0B (by simp;omega),a0T] at d;refine ⟨?_,⟨b.os,b.tape,b.output,by rw [b.size];exact a0d _,λq p=>b.block q (by omega)⟩,λq p o=>b.block q (λe=>o (by rw [e];rfl))⟩;have:=yw d ys.length m;have e:((ys++a0A (a.length - ys.length) []).map encStr).take ys.length=ys.map encStr:=by rw [a0C,List.take_left' (by simp)]
   rw [e] at this;exact this
end
section
open Go.RowKit Go.Maps Go.Shelf
theorem dC (s:Bs) (w:a0j) (c:s.length<=9223372036854775807):a0p a0b 230 #[S s] w λe w'=>e= .returned (.bool (s.all digitB))/\a0e w.heap.size w w':=by
 have H:=a0a (nC ⟨s.toArray⟩ w c);have a:=a0a (ku s);change Hid (a0p a0b 204 #[S s, .string ⟨#[48,49,50,51,52,53,54,55,56,57]⟩] w λe w'=>e= .returned (S (a1s s il))/\a0e w.heap.size w w') at H;generalize a1s s il=t at *;go_enter Tryz.func230,Tryz.ntmps230;go_wp2_with (go_at_call 204;((with_reducible refine a0c H.out ?_);rintro e w' ⟨rfl,b⟩))
 go_ret;refine ⟨ap ?_,b⟩;rw [a1h, <- a.out];simp
theorem kX:∀l:List Bs,Lib.join l [32]=dq l
 |[]=>rfl
 |[a]=>by rw [Lib.join_one];rfl
 |a::b::l=>by
  rw [Lib.join_cons]
  have h:=kX (b::l)
  rw [Lib.join_cons] at h
  unfold dq
  rw [<- h]
  simp [Lib.joinTail]
theorem Ap (l:List Bs):l.map (λs=>S s)=(l.map λs=>(⟨s.toArray⟩:ByteArray)).map a0H:=by simp [S]
theorem kW {w:a0j} {B n:Nat} {v:a0u} {l:List Bs} (h:w.ownsRow B 9 1 v n (l.map λs=>S s)) (C:l.length<=100000000) (o:(dq l).length<=140737488355328):
 a0p a0b 244 #[v,S [32]] w λe w'=>e= .returned (S (dq l))/\a0e w.heap.size w w':=by
 rcases h.2 with ⟨rfl,t⟩|⟨g,f,i,rfl,A,c,k,y,z,m⟩
 · have p:l=[]:=by have:=h.1;rw [t] at this;simpa using this
   subst p;refine (strings_Join_none none 0 ⟨#[32]⟩ w).mono ?_;rintro e w' ⟨rfl,rfl⟩;exact ⟨rfl,a0g _ _⟩
 · have q:l.length=n:=by have:=h.1;simpa using this
   subst q;have r:(l.map λs=>(⟨s.toArray⟩:ByteArray)).map (·.data.toList)=l:=by simp [Function.comp_def]
   have b:(l.map λs=>(⟨s.toArray⟩:ByteArray)).length=l.length:=by simp
   have d:Lib.join ((l.map λs=>(⟨s.toArray⟩:ByteArray)).map (·.data.toList)) (⟨#[32]⟩:ByteArray).data.toList=dq l:=by rw [r];exact kX l
   have H:=strings_Join g 0 f (l.map λs=>(⟨s.toArray⟩:ByteArray)) ⟨#[32]⟩ w (λj x u=>?_) (ae c) (by rw [b];omega) (by rw [b];exact k) (by rw [d];exact o)
   · rw [d,b] at H;exact H
   · rw [a0X,aa c];have a:(i.toList.take (l.length * 1))[j]? =some (.string x):=by rw [m,Ap,List.getElem?_map,u];rfl
     rw [List.getElem?_take] at a;split at a
     · rw [<- a,Array.getElem?_toList]
     · cases a
theorem nD (s:Bs) (w:a0j):a0p a0b 282 #[S s,S [48]] w λe w'=>e= .returned (S (s.dropWhile (· ==48)))/\w'=w:=
 Any.strings_TrimLeft_one yT ⟨s.toArray⟩ 48 (by decide) w
theorem oU (s:Bs) (b:Nat) (a:b<s.length) (k:Nat):checkGo k (s.take (b+1))=checkGo k (s.take b)+valB (s.getD b 0) * (1+2 * ((k+b)%2)):=by
 induction s generalizing b k with
 |nil=>simp at a
 |cons c l ih=>
  cases b with
  |zero=>simp [checkGo]
  |succ b=>
   have d:b<l.length:=by simpa using a
   have h:=ih b d (k+1);simp only [a09,checkGo,a1a];rw [h,show k+1+b=k+(b+1) by omega];omega
theorem sU (s:Bs) (k:Nat) (h:∀c∈s,valB c<=255):checkGo k s<=765 * s.length:=by
 induction s generalizing k with
 |nil=>simp [checkGo]
 |cons c l ih=> have d:=ih (k+1) λx b=>h x (a0G _ b);have a:=h c a0L;simp only [checkGo,a0i];have e:valB c * (1+2 * (k%2))<=255 * 3:=a0Z a (by omega);omega
end
section
open Go.RowKit Go.Maps Go.Shelf
abbrev signsI:Bs:=[48,49,50,51,52,53,54,55,56,57,88,120,32,45]
theorem xH (c:Nat) (h:128<=c):(∃a y:UInt8,a0R (c:Int)=⟨#[a,y]⟩/\128<=y.toNat)∨(∃a b y:UInt8,a0R (c:Int)=⟨#[a,b,y]⟩/\128<=y.toNat)∨∃a b d y:UInt8,a0R (c:Int)=⟨#[a,b,d,y]⟩/\128<=y.toNat:=by
 have f:∃n,(if Utf8.valid (c:Int) then (c:Int).toNat else Utf8.runeError)=n/\128<=n:=by
  refine ⟨_,rfl,?_⟩;split
  · simpa using h
  · decide
 obtain ⟨n,g,i⟩:=f;have e:∀k:Nat,128<=(a0m (128+k%64)).toNat:=λk=>by
  have:(a0m (128+k%64)).toNat=128+k%64:=by rw [UInt8.toNat_ofNat'];omega
  omega
 unfold a0R;rw [g];dsimp only;rw [if_neg (by omega)];split
 · exact .inl ⟨_,_,rfl,e n⟩
 · split
   · exact .inr (.inl ⟨_,_,_,rfl,e n⟩)
   · exact .inr (.inr ⟨_,_,_,_,rfl,e n⟩)
theorem oD (y:UInt8) (h:128<=y.toNat) (l:Bs) (a:∀b∈l,b.toNat<128) (w:a0j):a0p a0b 246 #[S l, .int .u8 y.toNat] w λe w'=>e= .returned (.int .i64 (-1))/\w'=w:=by
 have:=strings_IndexByte ⟨l.toArray⟩ y.toNat w;refine this.mono ?_;rintro e w' ⟨rfl,rfl⟩;refine ⟨?_,rfl⟩;have c:(y.toNat:Int).toNat.toUInt8=y:=by simp
 rw [c];have:a04 l y= -1:=by
  clear this c;induction l with
  |nil=>rfl
  |cons b l ih=>
   have:=a b a0L;simp only [a04];have f:(b==y)=false:=by
    cases hby:b==y
    · rfl
    · have e:b=y:=by simpa using hby
      rw [e] at this;omega
   rw [f,ih (λd g=>a d (a0G _ g))];rfl
 exact congrArg (λi=>Ending.returned (.int .i64 i)) this
theorem ul (c:Nat) (i:c<=1114111) (a:¬(55296<=c/\c<=57343)) (w:a0j):a0p a0b 312 #[.int .i32 c] w λe w'=>e= .returned (.bool true)/\w'=w:=by
 have d:(0:Int)<=c:=by omega
 by_cases h:c<55296
 · have b:(c:Int)<55296:=by omega
   clear a h;go_enter Tryz.func312,Tryz.ntmps312;go_wp2_with fail
   go_ret;exact ⟨rfl,rfl⟩
 · have b:¬(c:Int)<55296:=by omega
   have f:(57343:Int)<c:=by omega
   have g:(c:Int)<=1114111:=by omega
   clear a h;go_enter Tryz.func312,Tryz.ntmps312;go_wp2_with fail
   go_ret;exact ⟨rfl,rfl⟩
theorem nA (c:Nat) (a:55296<=c/\c<=57343) (w:a0j):a0p a0b 312 #[.int .i32 c] w λe w'=>e= .returned (.bool false)/\w'=w:=by
 have b:(0:Int)<=c:=by omega
 have d:¬(c:Int)<55296:=by omega
 have f:¬(57343:Int)<c:=by omega
 clear a;go_enter Tryz.func312,Tryz.ntmps312;go_wp2_with fail
 go_ret;exact ⟨rfl,rfl⟩
theorem vf (c:Nat) (h:128<=c) (l:c<=1114111) (m:c≠65533) (w:a0j):a0p a0b 284 #[S signsI, .int .i32 c] w λe w'=>e= .returned (.int .i64 (-1))/\a0e w.heap.size w w':=by
 have q:(0:Int)<=c:=by omega
 have r:¬(c:Int)<128:=by omega
 have s:¬((c:Int)=65533):=by omega
 by_cases hs:55296<=c/\c<=57343
 · have k:Hid (∀W,a0p a0b 312 #[.int .i32 c] W λe w'=>e= .returned (.bool false)/\w'=W):=λW=>nA c hs W;clear hs h m l;go_enter Tryz.func284,Tryz.ntmps284;go_wp2_with (go_at_call 312;((with_reducible refine a0c (k.out _) ?_);rintro e w1 ⟨rfl,rfl⟩))
   go_ret;exact ⟨rfl,a0g _ _⟩
 · have k:Hid (∀W,a0p a0b 312 #[.int .i32 c] W λe w'=>e= .returned (.bool true)/\w'=W):=λW=>ul c l hs W;have p:=xH c h;clear hs h m l;rcases p with ⟨a,y,f,g⟩|⟨a,b,y,f,g⟩|⟨a,b,d,y,f,g⟩
   · have j:Hid (∀W,a0p a0b 246 #[S [50,51,52,53,54,55,56,57,88,120,32,45], .int .u8 y.toNat] W λe w'=>e= .returned (.int .i64 (-1))/\w'=W):=λW=>oD y g _ (by decide) W;have n:¬((49:Int)=y.toNat):=by omega
     have i:Hid (a0H (a0R (c:Int))=S [a,y]):=by unfold Hid;rw [f]
     clear g f;go_enter Tryz.func284,Tryz.ntmps284;go_upto_region 2 with (go_at_call 312;((with_reducible refine a0c (k.out _) ?_);rintro e w1 ⟨rfl,rfl⟩))
     go_step3
     go_upto_region 2 with fail
     rw [i.out];go_wp2_with fail
     refine a0P 2 ?_;rw [a0q];go_wp2_with fail
     go_step3
     go_wp2_with fail
     go_region;go_wp2_with fail
     go_region_with (go_at_call 246;refine (j.out _).mono ?_;rintro e o ⟨rfl,rfl⟩)
     all_goals (go_wp2_with fail;rw [a0D];go_wp2_with fail;rw [a0D];go_wp2_with fail;go_ret;exact ⟨rfl,(a0g _ _).drew.drew⟩)
   · have j:Hid (∀W,a0p a0b 246 #[S [51,52,53,54,55,56,57,88,120,32,45], .int .u8 y.toNat] W λe w'=>e= .returned (.int .i64 (-1))/\w'=W):=λW=>oD y g _ (by decide) W;have n:¬((50:Int)=y.toNat):=by omega
     have i:Hid (a0H (a0R (c:Int))=S [a,b,y]):=by unfold Hid;rw [f]
     clear g f;go_enter Tryz.func284,Tryz.ntmps284;go_upto_region 2 with (go_at_call 312;((with_reducible refine a0c (k.out _) ?_);rintro e w1 ⟨rfl,rfl⟩))
     go_step3
     go_upto_region 2 with fail
     rw [i.out];go_wp2_with fail
     refine a0P 2 ?_;rw [a0q];go_wp2_with fail
     go_step3
     go_wp2_with fail
     go_region;go_wp2_with fail
     go_region_with (go_at_call 246;refine (j.out _).mono ?_;rintro e o ⟨rfl,rfl⟩)
     all_goals (go_wp2_with fail;rw [a0D];go_wp2_with fail;rw [a0D];go_wp2_with fail;go_ret;exact ⟨rfl,(a0g _ _).drew.drew⟩)
   · have j:Hid (∀W,a0p a0b 246 #[S [52,53,54,55,56,57,88,120,32,45], .int .u8 y.toNat] W λe w'=>e= .returned (.int .i64 (-1))/\w'=W):=λW=>oD y g _ (by decide) W;have n:¬((51:Int)=y.toNat):=by omega
     have i:Hid (a0H (a0R (c:Int))=S [a,b,d,y]):=by unfold Hid;rw [f]
     clear g f;go_enter Tryz.func284,Tryz.ntmps284;go_upto_region 2 with (go_at_call 312;((with_reducible refine a0c (k.out _) ?_);rintro e w1 ⟨rfl,rfl⟩))
     go_step3
     go_upto_region 2 with fail
     rw [i.out];go_wp2_with fail
     refine a0P 2 ?_;rw [a0q];go_wp2_with fail
     go_step3
     go_wp2_with fail
     go_region;go_wp2_with fail
     go_region_with (go_at_call 246;refine (j.out _).mono ?_;rintro e o ⟨rfl,rfl⟩)
     all_goals (go_wp2_with fail;rw [a0D];go_wp2_with fail;rw [a0D];go_wp2_with fail;go_ret;exact ⟨rfl,(a0g _ _).drew.drew⟩)
theorem mg (w:a0j):a0p a0b 284 #[S signsI, .int .i32 65533] w λe w'=>e= .returned (.int .i64 (-1))/\a0e w.heap.size w w':=by
 have q:Hid (∀p<14,(a0s ⟨signsI.toArray⟩ p).2=1/\(a0s ⟨signsI.toArray⟩ p).1<128):=by unfold Hid;decide+kernel
 go_enter Tryz.func284,Tryz.ntmps284;go_wp2_with fail
 have m:(w.alloc (.stringIter ⟨signsI.toArray⟩ 0)).heap[w.heap.size]? =some (.stringIter ⟨signsI.toArray⟩ 0):=a0h w _;have s:=a0a m;have n:Hid (a0e w.heap.size w (w.alloc (.stringIter ⟨signsI.toArray⟩ 0))):=(a0g _ w).alloc (a0d _) _;clear m;go_loopw [5,6] (λ_a _b wr=>Hid (a0e w.heap.size w wr)/\∃a:Nat,a<=14/\Hid (wr.heap[w.heap.size]? =some (.stringIter ⟨signsI.toArray⟩ a))) (λ_ _ wr=>14 - wr.iterPos w.heap.size)
 case atStart=>exact ⟨n,0,by omega,s⟩
 case round=>
  obtain ⟨g,a,x,c⟩:=hrel;have l:wr.iterPos w.heap.size=a:=by simp [a1b,c.out]
  have r:=a0a l;clear l;by_cases hp:a<14
  · obtain ⟨i,t⟩:=q a hp;have j:∀b,(a1k (.pointer (some ⟨w.heap.size,0,none⟩)) true b).run a0b wr=_:=λb=>a1y wr w.heap.size ⟨signsI.toArray⟩ a b c.out hp;have f:=Lib.iterAt_heap wr w.heap.size ⟨signsI.toArray⟩ a (a+(a0s ⟨signsI.toArray⟩ a).2) c.out;have d:=Lib.below_iterAt g.out (k:=w.heap.size) (a0d _) ⟨signsI.toArray⟩ (a+(a0s ⟨signsI.toArray⟩ a).2);rw [i] at j f d;generalize (wr.iterAt w.heap.size ⟨signsI.toArray⟩ (a+1))=W1 at *;generalize (a0s ⟨signsI.toArray⟩ a).1=z at *;have y:¬((z:Int)=65533):=by omega
    have h:=a0a f;have o:=a0a d;clear f d i t;go_wp2_with fail
    go_roundw
    case rel=>exact ⟨o,a+1,by omega,h⟩
    case measure=>
     have u:W1.iterPos w.heap.size=a+1:=by simp [a1b,h.out]
     rw [u,r.out];omega
  · have v:¬a<(⟨signsI.toArray⟩:ByteArray).size:=hp;have j:∀b,(a1k (.pointer (some ⟨w.heap.size,0,none⟩)) true b).run a0b wr=_:=λb=>a1x wr w.heap.size ⟨signsI.toArray⟩ a b c.out v;go_wp2_with fail
    (try rw [a0D])
    go_ret;exact ⟨rfl,g.out⟩
end
section
open Go.RowKit Go.Maps Go.Shelf
def partB (b:UInt8):Bool:=signsI.contains b
theorem yD:∀b:UInt8,partB b=true->b.toNat<128:=by
 intro b h;have:b∈signsI:=by simpa [partB] using h
 simp [signsI] at this;rcases this with rfl|rfl|rfl|rfl|rfl|rfl|rfl|rfl|rfl|rfl|rfl|rfl|rfl|rfl<;>decide
theorem qQ (b:UInt8) (t:List UInt8) (h:128<=b.toNat):128<=(Lib.decodeL (b::t)).1:=by
 rw [Lib.decodeL_N];unfold Lib.decodeN;rw [a1u,if_neg (by omega)];split
 · split
   · assumption
   · decide
 · split
   · split
     · rename_i a c;omega
     · decide
   · split
     · split
       · rename_i a c;omega
       · decide
     · decide
def iH (c:Nat):Bool:=decide (c<128)&&partB (a0m c)
theorem uZ (c:Nat) (b:c<=1114111) (w:a0j):a0p a0b 234 #[.int .i32 c] w λe w'=>e= .returned (.bool (!iH c))/\a0e w.heap.size w w':=by
 have f:Hid (a0p a0b 235 #[S signsI, .int .i32 c] w λe w'=>e= .returned (.bool (iH c))/\a0e w.heap.size w w'):=by
  by_cases h:c<128
  · refine (strings_ContainsRune_ascii ⟨signsI.toArray⟩ c w (by omega) (by omega)).mono ?_;rintro e w' ⟨rfl,rfl⟩;refine ⟨ap ?_,a0g _ _⟩;unfold iH partB;rw [decide_eq_true h,Bool.true_and,Lib.contains_iff_indexByte];have:(c:Int).toNat.toUInt8=a0m c:=by simp
    rw [this]
  · have g:Hid (a0p a0b 284 #[S signsI, .int .i32 c] w λe w'=>e= .returned (.int .i64 (-1))/\a0e w.heap.size w w'):=by
     by_cases h2:c=65533
     · subst h2;exact mg w
     · exact vf c (by omega) b h2 w
    have d:iH c=false:=by unfold iH;rw [decide_eq_false h];rfl
    rw [d];clear h d;go_enter Tryz.func235,Tryz.ntmps235;go_wp2_with (go_at_call 284;((with_reducible refine a0c g.out ?_);rintro e w1 ⟨rfl,a⟩))
    go_ret;exact ⟨rfl,a⟩
 generalize iH c=p at *;clear b;go_enter Tryz.func234,Tryz.ntmps234;go_wp2_with (go_at_call 235;((with_reducible refine a0c f.out ?_);rintro e w1 ⟨rfl,a⟩))
 go_ret;exact ⟨rfl,a⟩
def partN (s:Bs):Nat:=(s.takeWhile partB).length
theorem wP (s:Bs):partN s<=s.length:=(List.takeWhile_prefix _).length_le
theorem wQ (s:Bs):∀k,k<s.length->(∀j (h:j<s.length),j<k->partB s[j]=true)->(partB (s.getD k 0)=false->partN s=k)/\(partB (s.getD k 0)=true->k<partN s):=by
 induction s with
 |nil=>intro k a;simp at a
 |cons b s ih=>
  intro k a d;cases k with
  |zero=>
   simp only [a1u];refine ⟨λh=>?_,λh=>?_⟩
   · unfold partN;rw [a0I,h];rfl
   · unfold partN;rw [a0I,h];simp
  |succ k=>
   have c:=d 0 (by simp) (by omega);simp only [List.getElem_cons_zero] at c;have:=ih k (by simpa using a) (λj h f=>by have:=d (j+1) (by simpa using h) (by omega);simpa using this);have e:partN (b::s)=partN s+1:=by unfold partN;rw [a0I,c];simp
   rw [e,a1a];exact ⟨λh=>by rw [this.1 h],λh=>by have:=this.2 h;omega⟩
theorem uN (s:Bs) (h:∀j (h:j<s.length),partB s[j]=true):partN s=s.length:=by
 have:∀l:Bs,(∀b∈l,partB b=true)->l.takeWhile partB=l:=by
  intro l;induction l with
  |nil=>intro _;rfl
  |cons b l ih=> intro a;rw [a0I,a b a0L,if_pos rfl,ih λc f=>a c (a0G _ f)]
 unfold partN;rw [this s (λb d=>by obtain ⟨j,g,e⟩:=List.getElem_of_mem d;rw [<- e];exact h j g)]
theorem sJ (s:Bs) (w:a0j) (L:s.length<=1000000000):a0p a0b 283 #[S s, .func (.func 234) #[] #[], .bool true] w λe w'=>e= .returned (.int .i64 (if partN s=s.length then -1 else (partN s:Int)))/\a0e w.heap.size w w':=by
 have a4:=a0a L;obtain ⟨R,r⟩:∃R,(if partN s=s.length then (-1:Int) else (partN s:Int))=R:=⟨_,rfl⟩;rw [r];have y:=a0a r;clear L r;go_enter Tryz.func283,Tryz.ntmps283;go_wp2_with fail
 have M:(w.alloc (.stringIter ⟨s.toArray⟩ 0)).heap[w.heap.size]? =some (.stringIter ⟨s.toArray⟩ 0):=a0h w _;have W:=a0a M;have O:Hid (a0e w.heap.size w (w.alloc (.stringIter ⟨s.toArray⟩ 0))):=(a0g _ w).alloc (a0d _) _;clear M;go_loopw [7,8] (λ_a _b wr=>Hid (a0e w.heap.size w wr)/\∃a:Nat,a<=s.length/\Hid (wr.heap[w.heap.size]? =some (.stringIter ⟨s.toArray⟩ a))/\Hid (∀j (h:j<s.length),j<a->partB s[j]=true)) (λ_ _ wr=>s.length - wr.iterPos w.heap.size)
 case atStart=>exact ⟨O,0,by omega,W,λj h t=>by omega⟩
 case round=>
  obtain ⟨u,a,a5,i,o⟩:=hrel;have K:wr.iterPos w.heap.size=a:=by simp [a1b,i.out]
  have T:=a0a K;clear K;by_cases hp:a<s.length
  · have a2:a<(⟨s.toArray⟩:ByteArray).size:=hp;have a1:∀b,(a1k (.pointer (some ⟨w.heap.size,0,none⟩)) true b).run a0b wr=_:=λb=>a1y wr w.heap.size ⟨s.toArray⟩ a b i.out a2;have I:=Lib.iterAt_heap wr w.heap.size ⟨s.toArray⟩ a (a+(a0s ⟨s.toArray⟩ a).2) i.out;have E:=Lib.below_iterAt u.out (k:=w.heap.size) (a0d _) ⟨s.toArray⟩ (a+(a0s ⟨s.toArray⟩ a).2);have G:a0s ⟨s.toArray⟩ a=Lib.decodeL (s[a]::s.drop (a+1)):=by rw [dK,a0Y hp]
    have F:(a0s ⟨s.toArray⟩ a).1<=1114111:=by rw [dK];exact Lib.decodeL_rune _
    have q:=wQ s a hp o.out;have H:s.getD a 0=s[a]:=by simp [a0W,hp]
    rw [H] at q;have a0:(iH (a0s ⟨s.toArray⟩ a).1=partB s[a])/\(partB s[a]=true->(a0s ⟨s.toArray⟩ a).2=1):=by
     rw [G];by_cases h:s[a].toNat<128
     · rw [Lib.decodeL_ascii _ _ h];refine ⟨?_,λ_=>rfl⟩;unfold iH;rw [decide_eq_true h,Bool.true_and];simp
     · have A:=qQ s[a] (s.drop (a+1)) (by omega);have d:partB s[a]=false:=by
        cases l:partB s[a]
        · rfl
        · exact absurd (yD _ l) h
       refine ⟨?_,λl=>by rw [d] at l;cases l⟩;rw [d];unfold iH;rw [decide_eq_false (by omega)];rfl
    obtain ⟨B,C⟩:=a0;have D:∀j (h:j<s.length),j<a+1->partB s[a]=true->partB s[j]=true:=λj h t A=>by
     rcases Nat.lt_or_ge j a with d|d
     · exact o j h d
     · have:j=a:=by omega
       subst this;exact A
    have U:=a0a D;have N:=a0a q;have n:=a0a (uZ _ F);rw [B] at n;generalize partB s[a]=pb at *;generalize hW1:(wr.iterAt w.heap.size ⟨s.toArray⟩ (a+(a0s ⟨s.toArray⟩ a).2))=W1 at *;generalize hz:(a0s ⟨s.toArray⟩ a).2=z at *;generalize (a0s ⟨s.toArray⟩ a).1=c at *;have Y:=a0a C;have Q:=a0a I;have g:=a0a E;clear I E B C D q G F H hW1 hz;cases pb
    · have x:Hid (partN s=a):=N.1 rfl;have J:¬(partN s=s.length):=by rw [x.out];omega
      have p:Hid (R=a):=by unfold Hid;rw [<- y.out,if_neg J,x.out]
      clear J;go_wp2_with (go_at_call 234;((with_reducible refine a0c (n.out _) ?_);rintro e m ⟨rfl,f⟩))
      go_ret;exact ⟨(by rw [p.out];rfl),btr g.out f g.out.size⟩
    · have X:Hid (z=1):=Y rfl;have V:Hid (∀j (h:j<s.length),j<a+1->partB s[j]=true):=λj h t=>U j h t rfl;go_wp2_with (go_at_call 234;((with_reducible refine a0c (n.out _) ?_);rintro e m ⟨rfl,f⟩))
      have P:Hid (a0e w.heap.size w m):=btr g.out f g.size;have v:Hid (m.heap[w.heap.size]? =some (.stringIter ⟨s.toArray⟩ (a+1))):=by have:=Q.out;rw [X.out] at this;exact (f.block _ (Array.getElem?_eq_some_iff.1 this).1).trans this
      clear f;go_roundw
      case rel=>exact ⟨P,a+1,by omega,v,V⟩
      case measure=>
       have Z:m.iterPos w.heap.size=a+1:=by simp [a1b,v.out]
       rw [Z,T.out];omega
  · have a3:¬a<(⟨s.toArray⟩:ByteArray).size:=hp;have a1:∀b,(a1k (.pointer (some ⟨w.heap.size,0,none⟩)) true b).run a0b wr=_:=λb=>a1x wr w.heap.size ⟨s.toArray⟩ a b i.out a3;have p:Hid (R= -1):=by unfold Hid;rw [<- y.out,if_pos (uN s (λj h=>o.out j h (by omega)))]
    go_wp2_with fail
    go_ret;exact ⟨(by rw [p.out];rfl),u.out⟩
theorem sK (s:Bs) (w:a0j) (c:s.length<=1000000000):a0p a0b 233 #[S s, .func (.func 234) #[] #[]] w λe w'=>e= .returned (.int .i64 (if partN s=s.length then -1 else (partN s:Int)))/\a0e w.heap.size w w':=by
 have a:=a0a (sJ s w c);generalize (if partN s=s.length then (-1:Int) else (partN s:Int))=r at *;go_enter Tryz.func233,Tryz.ntmps233;go_wp2_with (go_at_call 283;((with_reducible refine a0c a.out ?_);rintro e w1 ⟨rfl,b⟩))
 go_ret;exact ⟨rfl,b⟩
theorem ve (s:Bs):isbnGo s=(s.takeWhile partB).filter λb=> !(decide (b=32)||decide (b=45)):=by
 induction s with
 |nil=>rfl
 |cons b s ih=>
  unfold isbnGo;have c:partB b=(digitB b||xB b||decide (b=32∨b=45)):=by
   have:∀n<256,partB (a0m n)=(digitB (a0m n)||xB (a0m n)||decide (a0m n=32∨a0m n=45)):=by decide+kernel
   have:=this b.toNat b.toNat_lt;rwa [a1v] at this
  have d:(digitB b||xB b)=true->(!(decide (b=32)||decide (b=45)))=true:=by
   have:∀n<256,(digitB (a0m n)||xB (a0m n))=true->(!(decide (a0m n=32)||decide (a0m n=45)))=true:=by decide+kernel
   have:=this b.toNat b.toNat_lt;rwa [a1v] at this
  rw [a0I,c];by_cases h1:(digitB b||xB b)=true
  · rw [if_pos h1,h1,Bool.true_or,if_pos rfl,a0w,d h1,if_pos rfl,ih]
  · rw [if_neg h1];have a:(digitB b||xB b)=false:=by simpa using h1
    rw [a,Bool.false_or];by_cases h2:b=32∨b=45
    · rw [if_pos h2,decide_eq_true h2,if_pos rfl,a0w,ih];have:(!(decide (b=32)||decide (b=45)))=false:=by rcases h2 with rfl|rfl<;>rfl
      rw [this];rfl
    · rw [if_neg h2,decide_eq_false h2];rfl
end
section
open Go.RowKit Go.Maps Go.Shelf
theorem jM (w:a0j):(callFunc 352 #[]).run a0b w= .ok (.value (.tuple #[])) w:=run_call_mark0 Tryz.func352 (by kernel_rfl) (by kernel_rfl) (by kernel_rfl) .disable (by kernel_rfl) w
theorem lj (w:a0j):(callFunc 354 #[]).run a0b w= .ok (.value (.tuple #[])) w:=run_call_mark0 Tryz.func354 (by kernel_rfl) (by kernel_rfl) (by kernel_rfl) .enable (by kernel_rfl) w
theorem rA (a:Addr) (w:a0j):(callFunc 355 #[.pointer (some a)]).run a0b w= .ok (.value (.tuple #[])) w:=run_call_marked Tryz.func355 (by kernel_rfl) (by kernel_rfl) (by kernel_rfl) .acquire (by kernel_rfl) a w
theorem pV (a:Addr) (w:a0j):(callFunc 357 #[.pointer (some a)]).run a0b w= .ok (.value (.tuple #[])) w:=run_call_marked Tryz.func357 (by kernel_rfl) (by kernel_rfl) (by kernel_rfl) .releaseMerge (by kernel_rfl) a w
theorem ut (a:Addr) (x:a0u) (u:FrameMode) (w:a0j) (f:w.cell? a=some x) (h:w.frozen? a=false):
 CallsD a0b 337 #[.pointer (some a), .bool true] u w λe d w'=>d=u/\(e= .returned (.tuple #[])/\w'=w.drew.setCell a (.int .u32 1)):=by
 have b:w.drew.cell? a=some x:=by go_simp
 have c:w.drew.frozen? a=false:=by go_simp
 have g:=run_call_store (P:=a0b) Tryz.func347 (by kernel_rfl) (by kernel_rfl) (by kernel_rfl) (by kernel_rfl) (k:= .u32) (y:=1) b c;go_enter_d Tryz.func337,Tryz.ntmps337
 go_wp2;go_region_calls
 all_goals (go_end0;exact ⟨rfl,rfl⟩)
theorem rJ (a:Addr) (u:FrameMode) (w:a0j) (b:w.cell? a=some (.int .i32 1)) (c:w.frozen? a=false):
 CallsD a0b 336 #[.pointer (some a)] u w λe d w'=>d=u/\(e= .returned (.tuple #[])/\w'=w.setCell a (.int .i32 0)):=by
 have h:=jM;have i:=lj;have j:=pV;have f:=run_call_add (P:=a0b) Tryz.func358 (by kernel_rfl) (by kernel_rfl) (by kernel_rfl) .i32 (by kernel_rfl) (y:= -1) (s:=0) b c (by simp [go_sem];rfl);have g:=run_convert_to_unsafe (P:=a0b) (src:=427) (dst:=282) Tryz.underlying427 Tryz.underlying282 (by kernel_rfl) b;go_enter_d Tryz.func336,Tryz.ntmps336
 go_wp2;go_end0
 go_wp2;all_goals (go_end0;exact ⟨rfl,rfl⟩)
theorem xh (a:Addr) (w:a0j) (b:w.cell? a=some (.int .i32 0)) (d:w.frozen? a=false):
 a0p a0b 335 #[.pointer (some a)] w λe w'=>e= .returned (.tuple #[])/\w'=w.setCell a (.int .i32 1):=by
 have i:=jM;have j:=lj;have f:=rA;have g:=run_call_cas_hit (P:=a0b) Tryz.func353 (by kernel_rfl) (by kernel_rfl) (by kernel_rfl) .i32 (by kernel_rfl) (y:=1) b d;have c:(w.setCell a (.int .i32 1)).cell? a=some (.int .i32 1):=World.cell?_setCell_same w a _ b;have h:=run_convert_to_unsafe (P:=a0b) (src:=427) (dst:=282) Tryz.underlying427 Tryz.underlying282 (by kernel_rfl) c;go_enter Tryz.func335,Tryz.ntmps335;go_wp2;first |go_end0|(simp only [Exit.inBlock,Exit.then];refine a0Q (results_none rfl _ _ _) rfl ?_)|refine a0Q (results_none rfl _ _ _) rfl ?_
 go_wp2;all_goals (go_end0;exact ⟨rfl,rfl⟩)
theorem qh (a:Addr) (d:Int) (b:Bool) (f:(d !=0)=b) (w:a0j) (c:w.cell? a=some (.int .u32 d)):a0p a0b 320 #[.pointer (some a)] w λe w'=>e= .returned (.bool b)/\w'=w:=by
 have g:=run_call_load (P:=a0b) Tryz.func334 (by kernel_rfl) (by kernel_rfl) (by kernel_rfl) .u32 (by kernel_rfl) c;subst f;go_enter Tryz.func320,Tryz.ntmps320;go_wp2;go_ret;exact ⟨rfl,rfl⟩
theorem vz (s:Bs) (c:UInt8) (w:a0j):a0p a0b 396 #[S s,S [c]] w λe w'=>e= .returned (.int .i64 (s.count c))/\w'=w:=by
 have a:(c.toNat:Int).toNat.toUInt8=c:=by simp
 have b:∀W,(callFunc 398 #[S s, .int .u8 c.toNat]).run a0b W= .ok (.value (.int .i64 (s.count c))) W:=λW=>by rw [run_callFunc_extern Tryz.func398 (by kernel_rfl) (by kernel_rfl) (by kernel_rfl) (e:=Extern.BytealgCount.count) (by kernel_rfl),Lib.run_countString,a];rfl
 go_enter Tryz.func396,Tryz.ntmps396;go_wp2;go_ret;exact ⟨rfl,rfl⟩
def jD (R:Nat) (v x:a0u) (a:a0j->Prop) (S:a0j->a0j->Prop):Prop:=
 ∀w:a0j,a w->w.heap[R]? =some (.cells #[.int .u32 0, .int .i32 1, .int .u32 0, .nilIface,v] 355 (0,0))->a0p a0b 289 #[.pointer (some ⟨R,0,none⟩)] w λe w'=>e= .returned (.tuple #[])/\w'.heap[R]? =some (.cells #[.int .u32 0, .int .i32 1, .int .u32 0,x, .slice none 0 0] 355 (0,0))/\S w w'
theorem ww (R:Nat) (v x:a0u) (i:a0j->Prop) (S:a0j->a0j->Prop) (j:jD R v x i S) (w:a0j) (k:∀w',aq R w w'->i w') (h:w.heap[R]? =some (.cells #[.int .u32 0, .int .i32 0, .int .u32 0, .nilIface,v] 355 (0,0))):
 a0p a0b 321 #[.pointer (some ⟨R,0,none⟩), .func (.func 289) #[.pointer (some ⟨R,0,none⟩)] #[]] w λe w'=>e= .returned (.tuple #[])/\∃w1 l:a0j,aq R w w1/\S w1 l/\aq R l w'/\w'.heap[R]? =some (.cells #[.int .u32 1, .int .i32 0, .int .u32 0,x, .slice none 0 0] 355 (0,0)):=by
 have c:(w.setCell ⟨R,1,none⟩ (.int .i32 1)).heap[R]? =some (.cells #[.int .u32 0, .int .i32 1, .int .u32 0, .nilIface,v] 355 (0,0)):=an h 1 (.int .i32 1);have d:aq R w (w.setCell ⟨R,1,none⟩ (.int .i32 1)):=(aq.refl R w).setCell 1 _;have o:=a0a (xh ⟨R,1,none⟩ w ((aa h 1).trans rfl) (ab h 1));have m:=a0a (j _ (k _ d) c);have p:=a0a (qh ⟨R,0,none⟩ 0 false rfl _ ((aa c 0).trans rfl));have z:∀(x:Bool) (w:a0j),(Op.unary .not (.bool x)).run a0b w= .ok (.bool (!x)) w:=λ_ _=>rfl;have n:=a0a d;clear c d h j k;generalize w.setCell ⟨R,1,none⟩ (.int .i32 1)=W1 at *;go_enter_defers Tryz.func321,Tryz.ntmps321
 go_wp2_with (first |(go_at_call 335;refine a0c o.out ?_;rintro e w' ⟨rfl,rfl⟩)|(go_at_call 320;refine a0c p.out ?_;rintro e w' ⟨rfl,rfl⟩)|(go_at_call 289;refine a0c m.out ?_;rintro e a ⟨rfl,b,s⟩))
 have y:=a0a b;refine leaves_cons (f:=337) (args:= #[.pointer (some ⟨R,0,none⟩), .bool true]) (by simp) (by simp [go_sem]) ?_;refine (ut ⟨R,0,none⟩ (.int .u32 0) .returning _ ((aa b 0).trans rfl) (ab b 0)).mono ?_;rintro e t u ⟨rfl,rfl,rfl⟩;have g:(a.drew.setCell ⟨R,0,none⟩ (.int .u32 1)).heap[R]? =some (.cells #[.int .u32 1, .int .i32 1, .int .u32 0,x, .slice none 0 0] 355 (0,0)):=an (w:=a.drew) b 0 (.int .u32 1);refine leaves_cons (f:=336) (args:= #[.pointer (some ⟨R,1,none⟩)]) (by simp [settle]) (by simp [go_sem]) ?_;refine (rJ ⟨R,1,none⟩ _ _ ((aa g 1).trans rfl) (ab g 1)).mono ?_;rintro e t u ⟨rfl,rfl,rfl⟩;have r:=an g 1 (.int .i32 0);have q:aq R a ((a.drew.setCell ⟨R,0,none⟩ (.int .u32 1)).setCell ⟨R,1,none⟩ (.int .i32 0)):=(((aq.refl R a).drew).setCell 0 _).setCell 1 _;simp [Leaves,settle,results,Tryz.results321];exact ⟨_,n.out,_,s,q,r⟩
theorem Ax (R:Nat) (v x:a0u) (a:a0j->Prop) (S:a0j->a0j->Prop) (b:jD R v x a S) (w:a0j) (c:∀w',aq R w w'->a w') (h:w.heap[R]? =some (.cells #[.int .u32 0, .int .i32 0, .int .u32 0, .nilIface,v] 355 (0,0))):
 a0p a0b 288 #[.pointer (some ⟨R,0,none⟩), .func (.func 289) #[.pointer (some ⟨R,0,none⟩)] #[]] w λe w'=>e= .returned (.tuple #[])/\∃w1 d:a0j,aq R w w1/\S w1 d/\aq R d w'/\w'.heap[R]? =some (.cells #[.int .u32 1, .int .i32 0, .int .u32 0,x, .slice none 0 0] 355 (0,0)):=by
 have g:=a0a (qh ⟨R,0,none⟩ 0 false rfl _ ((aa h 0).trans rfl));have f:=a0a (ww R v x a S b w c h);have k:∀(x:Bool) (w:a0j),(Op.unary .not (.bool x)).run a0b w= .ok (.bool (!x)) w:=λ_ _=>rfl;clear h b c;go_enter Tryz.func288,Tryz.ntmps288;go_wp2_with (first |(go_at_call 320;refine a0c g.out ?_;rintro e w' ⟨rfl,rfl⟩)|(go_at_call 321;refine a0c f.out ?_;rintro e j ⟨rfl,i⟩))
 go_end0
 exact ⟨rfl,i⟩
end
section
open Go.RowKit Go.Maps Go.Shelf
theorem dJ {c:UInt8} (h:digitB c=true):48<=c.toNat/\c.toNat<=57:=by
 unfold digitB at h;simp only [Bool.and_eq_true,decide_eq_true_eq] at h;exact h
theorem nj (s:Bs) (w:a0j) (B:12<=s.length) (W:s.length<=1000) (a:(s.take 12).all digitB=true):a0p a0b 240 #[S s] w λe w'=>e= .returned (.int .u8 (checkR s).toNat)/\a0e w.heap.size w w':=by
 obtain ⟨t,f⟩:∃t,s.take 12=t:=⟨_,rfl⟩;have m:t.length=12:=by rw [<- f];simp;omega
 have v:Hid (checkR s=a0m (48+(10 - checkGo 0 t%10)%10)):=by unfold Hid;rw [<- f];rfl
 rw [f] at a;obtain ⟨H,w1,O,n,M,L,d,A⟩:=lA t w;have G:=a0a n;have o:=a0a d;have p:Hid (∀k (h:k<t.length),digitB t[k]=true):=λk h=>by rw [a03] at a;exact a _ (a0O h)
 have g:Hid (∀k,checkGo 0 (t.take k)<=765 * 12):=λk=>by
  have:=sU (t.take k) 0 (λc d=>by
   have l:digitB c=true:=by rw [a03] at a;exact a _ (a1r d)
   have z:=dJ l;unfold valB;omega)
  have K:(t.take k).length<=12:=by rw [a0k];omega
  omega
 have X:(12:Int)<=(s.length:Int):=by omega
 have F:=a0a m;have Y:t.length<=12:=by omega
 have b:((s.take 12).length:Int)=t.length:=by rw [f]
 clear n d A a B m;go_enter Tryz.func240,Tryz.ntmps240;go_wp2_with fail
 go_loop [3,4,5,10] (λE _a _c i=>∃(k:Nat),k<=t.length/\i= .int .i64 k/\E= .int .i64 (checkGo 0 (t.take k):Nat)) (λ_ _ _ i=>t.length - (intOf i).toNat)
 case atStart=>exact ⟨0,a0y _,rfl,rfl⟩
 case round=>
  obtain ⟨k,P,rfl,rfl⟩:=hrel;by_cases b:k<t.length
  · have C:=g k;have N:=o k b;obtain ⟨l,z⟩:=dJ (p k b);have j:Hid (checkGo 0 (t.take (k+1))=checkGo 0 (t.take k)+(t[k].toNat - 48) * (1+2 * (k%2))):=by unfold Hid;rw [oU t k b,a0X];simp [valB,a0W,a1l b]
    generalize checkGo 0 (t.take k)=q at *;have R:((k:Int)%2)=((k%2:Nat):Int):=by omega
    have T:(Int.tmod (k:Int) 2)=((k%2:Nat):Int):=by rw [a0x (by omega)];omega
    have Q:k%2<2:=Nat.mod_lt _ (by omega);generalize k%2=r at *;have D:r=0∨r=1:=by omega
    rcases D with rfl|rfl
    · go_wp2_with fail
      go_round
      case rel=>exact ⟨k+1,by omega,by go_num,by rw [j.out];go_num⟩
      case measure=>simp [intOf];omega
    · go_wp2_with fail
      go_round
      case rel=>exact ⟨k+1,by omega,by go_num,by rw [j.out];go_num⟩
      case measure=>simp [intOf];omega
  · have C:=g k;have u:Hid (checkGo 0 (t.take k)=checkGo 0 t):=by unfold Hid;rw [a0v (by omega)]
    have I:Int.tmod ((checkGo 0 (t.take k):Nat):Int) 10=((checkGo 0 (t.take k)%10:Nat):Int):=by rw [a0x (by omega)];omega
    generalize checkGo 0 (t.take k)=q at *;have U:q%10<10:=Nat.mod_lt _ (by omega);generalize hqq:q%10=r at *;have J:Int.tmod (10 - (r:Int)) 10=(((10 - r)%10:Nat):Int):=by rw [a0x (by omega)];omega
    have V:(10 - r)%10<10:=Nat.mod_lt _ (by omega);rw [u.out] at hqq;have y:Hid (checkR s=a0m (48+(10 - r)%10)):=by unfold Hid;rw [v.out,hqq]
    generalize (10 - r)%10=x at *;go_wp2_with fail
    go_ret;refine ⟨?_, ‹a0e _ _ _›⟩;rw [y.out];simp;omega
theorem pA (s:Bs) (b:Nat) (a:b<s.length) (k:Nat):tenSum k (s.take (b+1))=tenSum k (s.take b)+(10 - (k+b)) * (if s.getD b 0=88 then 10 else valB (s.getD b 0)):=by
 induction s generalizing b k with
 |nil=>simp at a
 |cons c l ih=>
  cases b with
  |zero=>simp [tenSum]
  |succ b=>
   have d:b<l.length:=by simpa using a
   have h:=ih b d (k+1);simp only [a09,tenSum,a1a];rw [h,show k+1+b=k+(b+1) by omega];omega
theorem un (s:Bs) (k:Nat) (h:∀c∈s,digitB c=true∨c=88):tenSum k s<=100 * s.length:=by
 induction s generalizing k with
 |nil=>simp [tenSum]
 |cons c l ih=>
  have e:=ih (k+1) λx d=>h x (a0G _ d);have a:=h c a0L;simp only [tenSum,a0i];have b:(if c=88 then 10 else valB c)<=10:=by
   split
   · omega
   · rcases a with a|a
     · have:=dJ a;unfold valB;omega
     · contradiction
  have f:(10 - k) * (if c=88 then 10 else valB c)<=10 * 10:=a0Z (by omega) b;omega
theorem kL (s:Bs) (w:a0j) (z:s.length=10) (f:∀c∈s,digitB c=true∨c=88):a0p a0b 239 #[S s] w λe w'=>e= .returned (.bool (decide (tenSum 0 s%11=0)&&(s.take 9).all digitB))/\a0e w.heap.size w w':=by
 obtain ⟨F,w1,N,l,L,K,b,y⟩:=lA s w;have E:=a0a l;have n:=a0a b;have o:Hid (∀k (h:k<s.length),digitB s[k]=true∨s[k]=88):=λk h=>f _ (a0O h);have g:Hid (∀k,tenSum 0 (s.take k)<=1000):=λk=>by
  have:=un (s.take k) 0 (λc b=>f c (a1r b));have J:(s.take k).length<=10:=by rw [a0k];omega
  omega
 have P:s.length<=10:=by omega
 have Q:10<=s.length:=by omega
 have d:∀W,a0p a0b 230 #[S (s.take 9)] W λe w'=>e= .returned (.bool ((s.take 9).all digitB))/\a0e W.heap.size W w':=λW=>dC _ W (by rw [a0k];omega);have d:=a0a d;clear l b y f z;go_enter Tryz.func239,Tryz.ntmps239;go_wp2_with fail
 go_loop [3,4,5,6,10] (λD _a _c _n i=>∃(k:Nat),k<=s.length/\i= .int .i64 k/\D= .int .i64 (tenSum 0 (s.take k):Nat)) (λ_ _ _ _ i=>s.length - (intOf i).toNat)
 case atStart=>exact ⟨0,a0y _,rfl,rfl⟩
 case round=>
  obtain ⟨k,O,rfl,rfl⟩:=hrel;by_cases hlt:k<s.length
  · have A:=g k;have M:=n k hlt;have a:Hid (tenSum 0 (s.take (k+1))=tenSum 0 (s.take k)+(10 - k) * (if s[k]=88 then 10 else s[k].toNat - 48)):=by unfold Hid;rw [pA s k hlt,a0X];simp [valB,a0W,a1l hlt]
    generalize tenSum 0 (s.take k)=q at *;have x:=o k hlt;generalize s[k]=c at *;by_cases hx:c=88
    · subst hx;rw [if_pos rfl] at a;have C:(10 - (k:Int)) * 10=(((10 - k) * 10:Nat):Int):=by omega
      generalize (10 - k) * 10=m at *;have B:m<=100:=by omega
      go_wp2_with fail
      go_round
      case rel=>exact ⟨k+1,by omega,by go_num,by rw [a.out];go_num⟩
      case measure=>simp [intOf];omega
    · rw [if_neg hx] at a;obtain ⟨H,I⟩:=dJ (x.resolve_right hx);have T:¬((c.toNat:Int)=88):=by omega
      have U:((c.toNat:Int)==88)=false:=by simp;omega
      have C:(10 - (k:Int)) * ((c.toNat:Int) - 48)=(((10 - k) * (c.toNat - 48):Nat):Int):=by
       have t:((10 - k:Nat):Int)=10 - (k:Int):=by omega
       have u:((c.toNat - 48:Nat):Int)=(c.toNat:Int) - 48:=by omega
       rw [Int.natCast_mul,t,u]
      have B:(10 - k) * (c.toNat - 48)<=10 * 9:=a0Z (by omega) (by omega);generalize (10 - k) * (c.toNat - 48)=m at *;go_wp2_with fail
      go_round
      case rel=>exact ⟨k+1,by omega,by go_num,by rw [a.out];go_num⟩
      case measure=>simp [intOf];omega
  · have A:=g k;have p:Hid (tenSum 0 (s.take k)=tenSum 0 s):=by unfold Hid;rw [a0v (by omega)]
    have G:Int.tmod ((tenSum 0 (s.take k):Nat):Int) 11=((tenSum 0 (s.take k)%11:Nat):Int):=by rw [a0x (by omega)];omega
    have j:Hid (tenSum 0 (s.take k)%11=tenSum 0 s%11):=by unfold Hid;rw [p.out]
    generalize tenSum 0 (s.take k)%11=r at *;by_cases hr:r=0
    · subst hr;go_wp2_with (go_at_call 230;((with_reducible refine a0c (d.out _) ?_);rintro e V ⟨rfl,v⟩))
      go_ret;refine ⟨by rw [<- j.out];simp,(‹a0e w.heap.size w w1›).trans (v.mono (‹a0e w.heap.size w w1›).size)⟩
    · have R:((r:Int)==0)=false:=by simp;omega
      go_wp2_with fail
      go_ret;exact ⟨by rw [<- j.out];simp [hr], ‹a0e _ _ _›⟩
def foldN (l:Bs):Int:=l.foldl (λn c=>10 * n+((c.toNat:Int) - 48)) 0
theorem lh (l:Bs) (k:Nat) (h:k<l.length):foldN (l.take (k+1))=10 * foldN (l.take k)+((l[k].toNat:Int) - 48):=by
 unfold foldN;rw [a0M h,List.foldl_append];rfl
theorem qK (l:Bs) (h:∀c∈l,digitB c=true):∀k,k<=l.length->0<=foldN (l.take k)/\foldN (l.take k)<10^k:=by
 intro k;induction k with
 |zero=>intro _;simp [foldN]
 |succ k ih=>
  intro d;have a:=ih (by omega);have b:=dJ (h _ (a0O (show k<l.length by omega)));rw [lh l k (by omega)];have:(10:Int)^(k+1)=10 * 10^k:=by rw [Int.pow_succ,Int.mul_comm]
  omega
theorem sk (s:Bs) (w:a0j) (M:s.length<=1000000):a0p a0b 232 #[S s] w λe w'=>e= .returned (.int .i64 (aM s))/\a0e w.heap.size w w':=by
 by_cases hl:s.length=4
 · have H:=a0a (λW=>nC ⟨s.toArray⟩ W (by show s.length<=_;omega));have b:=a0a (ku s);change Hid (∀W,a0p a0b 204 #[S s, .string ⟨#[48,49,50,51,52,53,54,55,56,57]⟩] W λe w'=>e= .returned (S (a1s s il))/\a0e W.heap.size W w') at H;generalize a1s s il=t at *;have g:((s.length:Int)==4)=true:=by simp;omega
   have j:((s.length:Int)!=4)=false:=by simp;omega
   by_cases hd:s.all digitB=true
   · have A:t=[]:=b.2 hd;subst A;have a:Hid (aM s=foldN s):=by unfold Hid aM;rw [if_pos ⟨hl,hd⟩];rfl
     have p:Hid (∀k,(h:k<s.length)->digitB s[k]=true):=λk h=>by rw [a03] at hd;exact hd _ (a0O h)
     have u:Hid (∀k,k<=s.length->0<=foldN (s.take k)/\foldN (s.take k)<10^k):=qK s (λc f=>by rw [a03] at hd;exact hd c f);have J:s.length<=4:=by omega
     clear hd hl b;go_enter Tryz.func232,Tryz.ntmps232;go_wp2_with (go_at_call 204;((with_reducible refine a0c (H.out _) ?_);rintro e n ⟨rfl,d⟩;obtain ⟨E,w1,I,m,F,x,f,y⟩:=lA s n;have D:=a0a m;have o:=a0a f;clear m f y))
     go_loop [3,5,17] (λC _c i=>∃(k:Nat),k<=s.length/\i= .int .i64 k/\C= .int .i64 (foldN (s.take k))) (λ_ _ i=>s.length - (intOf i).toNat)
     case atStart=>exact ⟨0,a0y _,rfl,rfl⟩
     case round=>
      obtain ⟨k,z,rfl,rfl⟩:=hrel;obtain ⟨K,l⟩:=u k z;have L:foldN (s.take k)<10000:=Int.lt_of_lt_of_le l (by
       have:(10:Nat)^k<=10^4:=Nat.pow_le_pow_right (by omega) (by omega);have v:(((10:Nat)^k:Nat):Int)<=((10^4:Nat):Int):=by exact_mod_cast this
       simpa using v)
      clear l;by_cases hlt:k<s.length
      · have G:=o k hlt;obtain ⟨g,j⟩:=dJ (p k hlt);have b:=a0a (lh s k hlt);generalize foldN (s.take k)=q at *;go_wp2_with fail
        go_round
        case rel=>exact ⟨k+1,by omega,by go_num,by rw [b.out]⟩
        case measure=>simp [intOf];omega
      · have r:Hid (foldN (s.take k)=foldN s):=by unfold Hid;rw [a0v (by omega)]
        generalize foldN (s.take k)=q at *;go_wp2_with fail
        go_ret;refine ⟨aG ?_,d.trans (x.mono d.size)⟩;rw [a.out,r.out]
   · have a:Hid (aM s= -1):=by unfold Hid aM;rw [if_neg (λh=>hd h.2)]
     have B:¬t=[]:=λh=>hd (b.1 h);clear hl hd;have N:(t==[])=false:=by simpa using B
     go_enter Tryz.func232,Tryz.ntmps232;go_wp2_with (go_at_call 204;((with_reducible refine a0c (H.out _) ?_);rintro e n ⟨rfl,d⟩))
     go_ret;exact ⟨aG a.symm,d⟩
 · have a:Hid (aM s= -1):=by unfold Hid aM;rw [if_neg (λh=>hl h.1)]
   have g:((s.length:Int)==4)=false:=by simp;omega
   have j:((s.length:Int)!=4)=true:=by simp;omega
   go_enter Tryz.func232,Tryz.ntmps232;go_wp2_with fail
   go_ret;exact ⟨aG a.symm,a0g _ _⟩
end
section
open Go.RowKit Go.Maps Go.Shelf
attribute [local go_sem] Oper.semAt_some
theorem KeepsOthers.of_below {W a:a0j} (h:a0e W.heap.size W a):KeepsOthers W a:=
 ⟨h.size,λk _ b _=>(h.block k (ae b)).trans b⟩
theorem lO.of_below {M:Nat->Prop} {W a:a0j} (h:a0e W.heap.size W a) (b:∀k,M k->k<W.heap.size):lO M W a:=λk c=>h.block k (b k c)
theorem cN.of_below {B:Nat} {M:Nat->Prop} {W b:a0j} (h:a0e W.heap.size W b) (c:∀k,M k->k<W.heap.size):cN B M W M b:=
 ⟨h.os,h.tape,h.output,h.size,λk a _ _=>h.block k a,λ_ h=> .inl h,λk a=>Nat.lt_of_lt_of_le (c k a) h.size⟩
theorem ic:∀w:Bs,(h:w≠[])->stripR w=(w.take (w.length - 1)).dropWhile (· ==48)++w.drop (w.length - 1)
 |[],h=>absurd rfl h
 |[c],_=>by simp [stripR]
 |c::d::l,_=>by
  have ih:=ic (d::l) (by simp)
  unfold stripR
  have a:(c::d::l).length - 1=((d::l).length - 1)+1:=by simp
  rw [a,a09,List.drop_succ_cons,List.dropWhile_cons]
  by_cases h:c=48
  · rw [if_pos h,if_pos (by simp [h]),ih]
  · rw [if_neg h,if_neg (by simp [h])]
    rw [List.cons_append,a1n]
theorem mH (w:Bs):(stripR w).length<=w.length:=by
 by_cases h:w=[]
 · subst h;simp [stripR]
 · rw [ic w h,a0f,a0o];have:=List.Sublist.length_le (List.dropWhile_sublist (λx:UInt8=>x==48) (l:=w.take (w.length - 1)));rw [a0k] at this;omega
theorem wZ (w:Bs):(eT w).length<=w.length+2:=by
 unfold eT;split
 · have:=mH w;simp only [a0i];omega
 · omega
theorem gJ:∀l:List Bs,(dq l).length<=(l.map λs=>s.length+1).sum
 |[]=>by simp [dq]
 |[a]=>by simp [dq]
 |a::b::l=>by
  have:=gJ (b::l)
  unfold dq
  simp only [a0f,a0E,a0K,a0i,a0S] at *
  omega
theorem pj (a:List Nat) (l:Bs):((be a l).map a00).sum<=l.length+4 * a.length:=by
 induction a generalizing l with
 |nil=>unfold be;split<;>simp
 |cons c a ih=>
  have b:=mZ c;unfold be;split
  · split
    · have:=ih [];simp only [a0i,a0S] at *;omega
    · have:=ih [];simp only [a0i,a0S,a0E,a0K] at *;omega
  · have:=ih (l++bx c);simp only [a0i,a0f] at *;omega
theorem jc (s:Bs):((ba s).map a00).sum<=4 * s.length:=by
 have a:=pj (runesR s) [];have b:=kI s;unfold ba;simp only [a0S] at a;omega
theorem pE (l:List Bs) (c:Nat):(l.map λs=>s.length+c).sum=(l.map a00).sum+c * l.length:=by
 induction l with
 |nil=>simp
 |cons a l ih=>simp only [a0E,a0K,a0i,ih,Nat.mul_add];omega
theorem kV (l:List Bs):(dq (l.map eT)).length<=(l.map a00).sum+3 * l.length:=by
 refine a0t (gJ _) ?_;rw [List.map_map, <- pE];induction l with
 |nil=>simp
 |cons a l ih=> have:=wZ a;simp only [a0E,a0K,Function.comp] at *;omega
theorem kr (s x:Bs) (h:x∈ba s):x.length<=4 * s.length:=by
 have b:=jc s;have:∀l:List Bs,x∈l->x.length<=(l.map a00).sum:=by
  intro l;induction l with
  |nil=>intro h;cases h
  |cons a l ih=>
   intro h;simp only [a0E,a0K];rcases List.mem_cons.1 h with rfl|h
   · omega
   · have:=ih h;omega
 exact a0t (this _ h) b
theorem kK {w:a0j} {B e k n:Nat} {v:a0u} {a:List a0u} (h:w.ownsRow B e k v n a):w.drew.ownsRow B e k v n a:=h
theorem x9 {w:a0j} {B t:Nat} {v:a0u} (h:Boxed w B t v):Boxed w.drew B t v:=h
theorem fQ.at {w W b:a0j} {a:Nat} {M:Nat->Prop} {c:List Bs} (h:fQ w a M c W) (d:a0e W.heap.size W b):fQ w a M c b:=
 fQ.stable w a w.heap.size (a0d _) M c W M b h (cN.of_below d λk e=>(h.lt k e).1)
theorem vG (w:a0j) (o:Obj) (x:a0u) (t:TypeId):∀j u,[x][j]? =some u->((w.alloc o).alloc (.cells #[x] t)).drew.cell? ((⟨w.heap.size+1,0,none⟩:Addr).add j)=some u:=by
 have h:=cell_one_new (w.alloc o) x t;rw [a0r] at h;exact h
theorem xR {W b:a0j} (a:a0e W.heap.size W b) (o c:Obj):a0e W.heap.size W ((b.alloc o).alloc c).drew:=
 Below.drew ((a.alloc a.size _).alloc (by have:=a.size;simp;omega) _)
theorem nh {w W i w1:a0j} {a:Nat} {M:Nat->Prop} {f:List Bs} {z:Bs} {v c:a0u} (h:fQ w a M f W) (m:a0e W.heap.size W i) (I:w.heap.size<=a)
 (F:Boxed i a 81 v) (u:i.ownsRow w.heap.size 9 1 v f.length (f.map λs=>S s)) (D:∀g,v.ownBlock=some g->¬M g)
 (E:w1.ownsRow w.heap.size 9 1 c (f.length+1) ((f.map λs=>S s)++[S z])) (l:i.grownBy w1 v.ownBlock) (L:c.ownBlock=v.ownBlock∨c.ownBlock=some i.heap.size):
 Boxed w1 a 81 v/\KeepsOthers W (w1.setCell ⟨a,0,none⟩ c)/\lO M W (w1.setCell ⟨a,0,none⟩ c)/\fQ w a M (f++[z]) (w1.setCell ⟨a,0,none⟩ c):=by
 have G:=h.b.size;have y:=m.size;have n:=h.lt;have A:=h.box;have x:Boxed w1 a 81 v:=F.kept l (F.not_row (by decide) u);have J:a0e w.heap.size w (w1.setCell ⟨a,0,none⟩ c):=h.b.trans (((m.mono G).grown l (a0t G y) λj t=>(u.lt j t).1).setCell (p:=⟨a,0,none⟩) I c);refine ⟨x,((KeepsOthers.of_below m).trans (KeepsOthers.of_grownBy l λj o t B=>?_)).trans (KeepsOthers.setCell _ _ _),λk d=>?_,⟨⟨_,x.set c,?_,λq r C=>?_⟩,J,λk d=>⟨?_,(n k d).2⟩,A⟩⟩
 · obtain ⟨N,K⟩:=aD u t;rw [K] at B;cases B;rfl
 · have H:=(n k d).1;rw [a0J _ _ _ _ (λ(e:k=a)=>A (e ▸ d)),l.block k (by omega) (λe=>D k e.symm d)];exact m.block k H
 · rw [a0f,a0C];exact E.kept (grownBy_setCell' w1 a c) (.inr (x.not_row (by decide) E).symm)
 · rcases L with e|e
   · exact D q (e ▸ r) C
   · rw [e] at r;injection r with r
     have:=(n q C).1;omega
 · refine Nat.lt_of_lt_of_le (n k d).1 (a0t y ?_);rw [World.size_setCell];exact l.size
theorem wv (s:Bs) (skip:Nat) (hs:s.length<=1000000) (E:skip<=1000) (w:a0j):a0p a0b 231 #[S s, .int .i64 skip] w λe w'=>e= .returned (S (fL s skip))/\a0e w.heap.size w w':=by
 obtain ⟨t,L⟩:∃t,s.drop skip=t:=⟨_,rfl⟩;have b4:t.length<=1000000:=by rw [<- L,a0o];omega
 have C:Hid (fL s skip=dq ((ba t).map eT)):=by unfold Hid fL;rw [L]
 have c0:max (skip:Int) 0=skip:=by omega
 have b1:min (skip:Int) (s.length:Int)=((min skip s.length:Nat):Int):=by omega
 have bB:min skip s.length<=s.length:=Nat.min_le_right _ _;have bv:s.drop (min skip s.length)=t:=by
  rw [<- L];rcases Nat.le_total skip s.length with h|h
  · rw [Nat.min_eq_left h]
  · rw [Nat.min_eq_right h,a0B h,List.drop_length]
 generalize min skip s.length=m at *;have b8:=a0a b1;have b5:(w.alloc (.cells #[.slice none 0 0] 81)).heap.size=w.heap.size+1:=by simp
 refine (callsIn_wide (n:=10)).1 ?_;refine callsIn_of_wp_marks Tryz.func231 rfl trivial ?_ rfl;simp only [Tryz.ntmps231,List.size_toArray,a0i,a0S,Nat.reduceAdd,Nat.reduceSub,Array.replicate_succ,Array.replicate_zero,List.push_toArray,List.append_toArray,a1g,List.cons_append];gi_wp2_with (refine ⟨trivial,?_⟩;gi_at_call 185;refine (callsIn_wide.2 (jd t _)).mono ?_;rintro e w1 ⟨rfl,rfl⟩)
 have b3:=je 9 (by omega) (w.heap.size+1) t b4 ((w.alloc (.cells #[.slice none 0 0] 81)).alloc (.cells #[S t] 9)) (by rw [<- b5,a06];rfl);have bO:Boxed ((w.alloc (.cells #[.slice none 0 0] 81)).alloc (.cells #[S t] 9)) w.heap.size 81 (.slice none 0 0):=(Boxed.new w 81 (.slice none 0 0)).alloc _;have a5:a0e w.heap.size w ((w.alloc (.cells #[.slice none 0 0] 81)).alloc (.cells #[S t] 9)):=((a0g _ w).alloc (a0d _) _).alloc (by simp) _;generalize hW0:(w.alloc (.cells #[.slice none 0 0] 81)).alloc (.cells #[S t] 9)=W0 at *;have bb:W0.heap.size=w.heap.size+2:=by rw [<- hW0];simp
 refine km rfl (by decide) (gf:=247) (lb:= #[.pointer (some ⟨w.heap.size+1,0,none⟩)]) ?hg trivial (enters_of Tryz.func247 (by kernel_rfl) rfl) b3 (λk E=>E.elim) (a0g _ _) (λ_=>rfl)
  (λM j W=>fQ w w.heap.size M (j.map eT) W) (λ_ _ _ _=>False) (λM s X M' Y h L=>fQ.stable w _ _ a5.size M (s.map eT) X M' Y h L) (λ_ _ _ _ _ _ h _=>h) (λM s X h k E=>(h.lt k E).1) (λ_ _ _ _ h=>h.elim)
  ⟨⟨_,bO,a1d _ _ _ _,λg hg=>by cases hg⟩,a5,λk E=>E.elim,λh=>h⟩
  ?a1 ?assign ?body ?done ?stop
 case hg=>simp [Act.eval]
 case assign=>
  intro l x W K f;gi_wp2
  exact f
 case done=>
  rintro D M xs W hD hS h f;obtain ⟨v,N,F,_⟩:=h.o;have hc:=N.cell;have b9:=a0a F;have Z:=a0a h.b;obtain rfl:=hS;have bw:(dq ((ba t).map eT)).length<=10000000:=by have:=kV (ba t);have:=jc t;have:=el t;omega
  have c7:=el t;have HJ:=a0a (kW (w:=W) (B:=w.heap.size) (n:=((ba t).map eT).length) (v:=v) (l:=(ba t).map eT) F (by simp;omega) (by omega));clear h F;gi_wp2_with (refine ⟨trivial,?_⟩;gi_at_call 244;refine (callsIn_wide.2 HJ.out).mono ?_;rintro e d ⟨rfl,a⟩)
  have ac:d.heap[D]? =some (.deferred (some [])):=(a.block D (ae f)).trans f;refine ⟨by simp, .inl ⟨_,_,rfl,run_takeDeferred ac,?_⟩⟩;refine ⟨_,results_tmp rfl _ _ _,by rw [C.out];rfl,(Z.out.trans (a.mono Z.out.size)).trans (belowK_b (w:=w) (a0d _) d D _ _ (by have:=a5.size;omega) ac rfl rfl)⟩
 case stop=> rintro D c M j W _ _ h _;exact h.elim
 case body=>
  rintro l M j x W h U;obtain ⟨v,N,F,ad⟩:=h.o;have hc:=N.cell;obtain ⟨i0,hi,au,av,ax⟩:=a1i i9;have Z:=a0a h.b;have C:=a0a F;have R:=a0a N;have a9:=a0a ad;have P:=a0a h;have ao:=U.1;have cc:x.length<=4000000:=by have:=kr t x (by obtain ⟨z,hz⟩:=U.2;rw [<- hz];simp);omega
  have c2:j.length<100000000:=by have:=U.2.length_le;have:=el t;simp at *;omega
  clear h F N ad U;by_cases hd:fF x=true
  · have cb:0<x.length:=List.length_pos_iff.2 ao;have al:(x.length:Int) - 1=((x.length - 1:Nat):Int):=by omega
    have b2:x.length - 1<=x.length:=by omega
    obtain ⟨q,hq⟩:∃q,x.length - 1=q:=⟨_,rfl⟩;obtain ⟨y,V⟩:∃y,stripR x=y:=⟨_,rfl⟩;have cd:y.length<=x.length:=by rw [<- V];exact mH x
    have HY:Hid ((x.take q).dropWhile (· ==48)++x.drop q=y):=by unfold Hid;rw [<- V, <- hq,ic x ao]
    have Q:Hid (eT x=(48+a0m (min y.length 99 / 10))::(48+a0m (min y.length 99%10))::y):=by unfold Hid eT;rw [if_pos hd,V,UInt8.ofNat_add,UInt8.ofNat_add];rfl
    rw [hq] at al b2;have b0:¬9223372036854775807<(List.dropWhile (· ==48) (x.take q)).length+(x.drop q).length:=by have:=congrArg a00 HY.out;rw [a0f] at this;omega
    have HD:Hid (∀W,a0p a0b 230 #[S x] W λe w'=>e= .returned (.bool true)/\a0e W.heap.size W w'):=λW=>by have:=dC x W (by omega);unfold fF at hd;rw [hd] at this;exact this
    have b7:Tryz.prog.follows .mixedOrders=true:=by kernel_rfl
    have b6:IntKind.i64.wrap (q:Int)=q:=a0F _ (by omega);have c9:IntKind.i64.wrap ((x.length:Int) - 1)=q:=by rw [al];exact b6
    have c5:(0:Int)<=q:=by omega
    have c4:(q:Int)<=(x.length:Int):=by omega
    have bA:¬9223372036854775807<(List.dropWhile (· ==48) (x.take q)).length+(x.length - q):=by rw [<- a0o];exact b0
    skip;obtain ⟨n,hn⟩:∃n,min y.length 99=n:=⟨_,rfl⟩;have c1:n<=99:=by omega
    have bY:min (y.length:Int) 99=(n:Int):=by omega
    have c3:Int.tdiv (n:Int) 10=((n / 10:Nat):Int):=by rw [Int.tdiv_eq_ediv_of_nonneg (by omega)];omega
    have c6:Int.tmod (n:Int) 10=((n%10:Nat):Int):=by rw [a0x (by omega)];omega
    rw [hn] at Q;have bs:n / 10<=9:=by omega
    have bt:n%10<=9:=by omega
    generalize n / 10=d1 at *;generalize n%10=d2 at *;clear hd V hq hn;gi_wp2_with (refine ⟨trivial,?_⟩;gi_at_call 230;refine (CallsIn.inRound l (callsIn_wide.2 (HD _))).mono ?_;rintro e d ⟨rfl,a⟩;have H:=P.at a;have p:=a0a (show Boxed d w.heap.size 81 v from (a.block _ (ae R.out)).trans R.out);have G:=a0a (ah C.out λg hg=>a.block g (kJ C.out g hg));have aS:=p.cell;have bc:∀o,(d.alloc o).cell? ⟨w.heap.size,0,none⟩=some v:=λo=>(p.alloc o).cell;have bk:∀o,(d.alloc o).drew.cell? ⟨w.heap.size,0,none⟩=some v:=λo=>(p.alloc o).cell;have a0:=a0a H.b;clear H)
    have T:True:=trivial;refine lX (λ_=>True) 12 b7 (by decide) (by kernel_rfl) (λ⟨_,_,h⟩=>h) ?_;refine tk 0 ?_ rfl T ?_ ?_;rotate_left;intro w' h;go_simp;rfl;refine tk 1 ?_ rfl T ?_ ?_;rotate_left;intro w' h;go_simp;rfl;refine tk 2 ?_ rfl T ?_ ?_;rotate_left;intro w' h;go_simp;rfl;refine tk 3 ?_ rfl T ?_ ?_;rotate_left;intro w' h;go_simp;rfl;refine tk 4 ?_ rfl T ?_ ?_;rotate_left;intro w' h;go_simp;rfl;refine tk 6 ?_ rfl T ?_ ?_;rotate_left;intro w' h;go_simp;rfl;refine tk 7 ?_ rfl T ?_ ?_;rotate_left;intro w' h;go_simp;rfl;refine tk 8 ?_ rfl T ?_ ?_;rotate_left;intro w' h;go_simp;rfl;refine tk 9 ?_ rfl T ?_ ?_;rotate_left;intro w' h;go_simp;rfl;refine tk 10 ?_ rfl T ?_ ?_;rotate_left;intro w' h;go_simp;rfl;refine dO 5 rfl λK f=>?_;go_simp;go_at_call 282;refine (nD _ _).mono ?_;rintro e w3 ⟨rfl,rfl⟩;refine f _ _ (λ_=>T) ?_;clear f K;refine bQ (i:=11) (v:=S y) rfl (by kernel_rfl) (by kernel_rfl) (by kernel_rfl) (by kernel_rfl) (by decide) (λ_ _ _ h=>h) T (Or.inl ⟨by rfl,?_⟩) ?_;focus (intro w' h;go_simp;exact HY.out)
    refine dO 12 rfl λK f=>?_;go_simp;refine f _ _ (λ_=>T) ?_;refine dN ?_;gi_wp2_with (gi_at_builtin;(refine wpListIn_append_own_at _ rfl _ _ 81 rfl w.heap.size 9 i0 (.string ⟨#[]⟩) 1 16 Tryz.underlying81 hi au av ax rfl a02 v (a1f eT j).length (a1f (λs=>S s) (a1f eT j)) ?_ ?_ ⟨d.heap.size+1,0,none⟩ 1 1 [a0H {data:=((48+a0m d1)::(48+a0m d2)::y).toArray}] ?_ ?_ ?_ ?_ ?_ ?_ ?_ ?_);(focus rfl);(focus exact kK ((G.out.alloc _).alloc _));(focus rfl);(focus rfl);(focus exact vG _ _ _ _);(focus simp [a0N]);(focus (unfold maxLen;rw [a0z];omega));(focus (rw [a0z];omega));(focus (have:=a0.out.size;simp;omega));intro v' w1 J a8 _ I;obtain ⟨g',ay,rfl⟩:=ownsRow_succ J;have a6:=xR a (.cells #[a07 IntKind.u8 (48+d1),a07 IntKind.u8 (48+d2)] 5) (.cells #[a0H {data:=((48+a0m d1)::(48+a0m d2)::y).toArray}] 9);obtain ⟨O,A,u,r⟩:=nh (z:=eT x) P.out a6 (a0d _) (x9 ((p.out.alloc _).alloc _)) (kK ((G.out.alloc _).alloc _)) a9.out (by rw [Q.out];exact J) a8 I;rw [a0z] at A u r;have aC:=O.cell;have aT:=O.frozen;have a4:=a0a A;have a3:=a0a u;have a2:=a0a r;clear A u r I)
    exact ⟨a4.out,a3.out,by have h:=a2.out;rw [<- a1w, <- a0C] at h;exact h⟩
  · have Q:Hid (eT x=x):=by unfold Hid eT;rw [if_neg hd]
    have a7:fF x=false:=by simpa using hd
    have HD:Hid (∀W,a0p a0b 230 #[S x] W λe w'=>e= .returned (.bool false)/\a0e W.heap.size W w'):=λW=>by have:=dC x W (by omega);unfold fF at a7;rw [a7] at this;exact this
    clear hd a7
    gi_wp2_with (first
     |(refine ⟨trivial,?_⟩;gi_at_call 230;refine (CallsIn.inRound l (callsIn_wide.2 (HD _))).mono ?_;rintro e d ⟨rfl,a⟩;have H:=P.at a;have p:=a0a (show Boxed d w.heap.size 81 v from (a.block _ (ae R.out)).trans R.out);have G:=a0a (ah C.out λg hg=>a.block g (kJ C.out g hg));have aS:=p.cell;have a0:=a0a H.b;clear H)
     |(gi_at_builtin;(refine wpListIn_append_own_at _ rfl _ _ 81 rfl w.heap.size 9 i0 (.string ⟨#[]⟩) 1 16 Tryz.underlying81 hi au av ax rfl a02 v (a1f eT j).length (a1f (λs=>S s) (a1f eT j)) ?_ ?_ ⟨d.heap.size,0,none⟩ 1 1 [S x] ?_ ?_ ?_ ?_ ?_ ?_ ?_ ?_);(focus rfl);(focus exact G.out.alloc _);(focus rfl);(focus rfl);(focus exact cell_one_new _ _ _);(focus simp [a0N]);(focus (unfold maxLen;rw [a0z];omega));(focus (rw [a0z];omega));(focus (have:=a0.out.size;simp;omega));intro v' w1 J a8 _ I;obtain ⟨g',ay,rfl⟩:=ownsRow_succ J;have a6:a0e W.heap.size W (d.alloc (.cells #[S x] 9)):=a.alloc a.size _;obtain ⟨O,A,u,r⟩:=nh (z:=eT x) P.out a6 (a0d _) (p.out.alloc _) (G.out.alloc _) a9.out (by rw [Q.out];exact J) a8 I;rw [a0z] at A u r;have aC:=O.cell;have aT:=O.frozen;have a4:=a0a A;have a3:=a0a u;have a2:=a0a r;clear A u r I))
    exact ⟨a4.out,a3.out,by have h:=a2.out;rw [<- a1w, <- a0C] at h;exact h⟩
end
section
open Go.RowKit Go.Maps Go.Shelf
def ixGo (a:Bs):List af->Nat->Option Nat
 |[],_=>none
 |f::l,i=>if f.tag=a then some i else ixGo a l (i+1)
def ixI:Option Nat->Int
 |some k=>k
 |none=> -1
theorem uY (a:Bs) (l:List af) (i:Nat):(∃k,ixGo a l i=some k/\∃h:k - i<l.length,i<=k/\l.find? (λf=>f.tag==a)=some l[k - i])∨(ixGo a l i=none/\l.find? (λf=>f.tag==a)=none):=by
 induction l generalizing i with
 |nil=>exact .inr ⟨rfl,rfl⟩
 |cons f l ih=>
  unfold ixGo;by_cases h:f.tag=a
  · rw [if_pos h];exact .inl ⟨i,rfl,by simp,a0d _,by simp [h]⟩
  · rw [if_neg h,List.find?_cons_of_neg (by simpa using h)];rcases ih (i+1) with ⟨k,c,d,g,b⟩|⟨c,b⟩
    · have e:k - i=k - (i+1)+1:=by omega
      refine .inl ⟨k,c,by simp only [a0i];omega,by omega,?_⟩;rw [b];simp only [e,List.getElem_cons_succ]
    · exact .inr ⟨c,b⟩
theorem qC (b:Bs) (a:List af):(∃k,ixGo b a 0=some k/\∃h:k<a.length,firstF a b=some a[k])∨(ixGo b a 0=none/\firstF a b=none):=by
 rcases uY b a 0 with ⟨k,d,e,_,c⟩|⟨d,c⟩
 · exact .inl ⟨k,d,e,c⟩
 · exact .inr ⟨d,c⟩
theorem na {a:List af} {k:Nat} (h:k<a.length):a.drop k=a[k]::a.drop (k+1):=a0Y h
def zX (g p:Nat) (b:Bs):Prop:=∀(a i x:Bs) (d:a0u) (w:a0j),w.cell? ⟨p,0,none⟩=some (S b)->
 a0p a0b g #[.agg #[S a,S i,S x,d], .pointer (some ⟨p,0,none⟩)] w λe w'=>e= .returned (.bool (decide (a=b)))/\a0e w.heap.size w w'
theorem um (p:Nat) (c:Bs):zX 245 p c:=by
 intro a i x d w b;have e:=bq b;have f:∀o,(w.alloc o).cell? ⟨p,0,none⟩=some (S c):=λo=>by rw [aR _ _ _ _ e];exact b
 go_enter Tryz.func245,Tryz.ntmps245;go_wp2_with fail
 go_ret;exact ⟨ap (by rw [a1h];simp),(a0g _ w).alloc (a0d _) _⟩
theorem sO (p:Nat) (c:Bs):zX 242 p c:=by
 intro a i x d w b;have e:=bq b;have f:∀o,(w.alloc o).cell? ⟨p,0,none⟩=some (S c):=λo=>by rw [aR _ _ _ _ e];exact b
 go_enter Tryz.func242,Tryz.ntmps242;go_wp2_with fail
 go_ret;exact ⟨ap (by rw [a1h];simp),(a0g _ w).alloc (a0d _) _⟩
theorem mh (p:Nat) (f:Bs) (v:a0u) (c:List af) (w:a0j) (o:ai 0 w.heap.size w v c) (E:c.length<=1000000) (n:w.cell? ⟨p,0,none⟩=some (S f)):
 a0p a0b 241 #[v, .func (.func 245) #[] #[.pointer (some ⟨p,0,none⟩)]] w λe w'=>e= .returned (.int .i64 (ixI (ixGo f c 0)))/\a0e w.heap.size w w':=by
 have t:=a0a o;have s:=a0a n;obtain ⟨a,u,rfl⟩:=o.shape;have x:=bq n;clear o n;go_enter Tryz.func241,Tryz.ntmps241;go_wp2_with fail
 go_loopw [5,8] (λ_j i wr=>∃(k:Nat),k<=c.length/\i= .int .i64 k/\Hid (ixGo f c 0=ixGo f (c.drop k) k)/\a0e w.heap.size w wr) (λ_ i _=>c.length - (intOf i).toNat)
 case atStart=>exact ⟨0,a0y _,rfl,rfl,a0g _ _⟩
 case round=>
  obtain ⟨k,D,rfl,l,g⟩:=hrel;by_cases hlt:k<c.length
  · have r:ai 0 w.heap.size wr (a08 a c.length u) c:=t.kept (bd g (a0d _));have q:wr.cell? ⟨p,0,none⟩=some (S f):=((aE g).1 p 0 x).trans s.out;obtain ⟨b,F,B,d,y,C,_,z,c1,c2,A,_⟩:=r.field k hlt;cases y;have h:=a0a (um p f c[k].tag c[k].ind c[k].data d wr q);have j:Hid (ixGo f (c.drop k) k=if c[k].tag=f then some k else ixGo f (c.drop (k+1)) (k+1)):=by unfold Hid;rw [na hlt];rfl
    clear r q;generalize c[k].tag=T at *;generalize c[k].ind=I at *;generalize c[k].data=X at *;by_cases hT:T=f
    · rw [if_pos hT] at j;rw [show decide (T=f)=true from decide_eq_true hT] at h;clear hT;go_wp2_with (go_at_call 245;((with_reducible refine a0c h.out ?_);rintro e w' ⟨rfl,m⟩))
      go_ret;exact ⟨aG (by rw [l.out,j.out];rfl),btr g m g.size⟩
    · rw [if_neg hT] at j;rw [show decide (T=f)=false from decide_eq_false hT] at h;clear hT;go_wp2_with (go_at_call 245;((with_reducible refine a0c h.out ?_);rintro e w' ⟨rfl,m⟩))
      go_roundw
      case rel=>exact ⟨k+1,by omega,by go_num,by unfold Hid;rw [l.out,j.out],btr g m g.size⟩
      case measure=>simp [intOf];omega
  · go_wp2_with fail
    go_ret;refine ⟨aG ?_,g⟩;rw [l.out,a0B (by omega)];rfl
theorem mi (p:Nat) (f:Bs) (v:a0u) (c:List af) (w:a0j) (o:ai 0 w.heap.size w v c) (E:c.length<=1000000) (n:w.cell? ⟨p,0,none⟩=some (S f)):
 a0p a0b 241 #[v, .func (.func 242) #[] #[.pointer (some ⟨p,0,none⟩)]] w λe w'=>e= .returned (.int .i64 (ixI (ixGo f c 0)))/\a0e w.heap.size w w':=by
 have t:=a0a o;have s:=a0a n;obtain ⟨a,u,rfl⟩:=o.shape;have x:=bq n;clear o n;go_enter Tryz.func241,Tryz.ntmps241;go_wp2_with fail
 go_loopw [5,8] (λ_j i wr=>∃(k:Nat),k<=c.length/\i= .int .i64 k/\Hid (ixGo f c 0=ixGo f (c.drop k) k)/\a0e w.heap.size w wr) (λ_ i _=>c.length - (intOf i).toNat)
 case atStart=>exact ⟨0,a0y _,rfl,rfl,a0g _ _⟩
 case round=>
  obtain ⟨k,D,rfl,l,g⟩:=hrel;by_cases hlt:k<c.length
  · have r:ai 0 w.heap.size wr (a08 a c.length u) c:=t.kept (bd g (a0d _));have q:wr.cell? ⟨p,0,none⟩=some (S f):=((aE g).1 p 0 x).trans s.out;obtain ⟨b,F,B,d,y,C,_,z,c1,c2,A,_⟩:=r.field k hlt;cases y;have h:=a0a (sO p f c[k].tag c[k].ind c[k].data d wr q);have j:Hid (ixGo f (c.drop k) k=if c[k].tag=f then some k else ixGo f (c.drop (k+1)) (k+1)):=by unfold Hid;rw [na hlt];rfl
    clear r q;generalize c[k].tag=T at *;generalize c[k].ind=I at *;generalize c[k].data=X at *;by_cases hT:T=f
    · rw [if_pos hT] at j;rw [show decide (T=f)=true from decide_eq_true hT] at h;clear hT;go_wp2_with (go_at_call 242;((with_reducible refine a0c h.out ?_);rintro e w' ⟨rfl,m⟩))
      go_ret;exact ⟨aG (by rw [l.out,j.out];rfl),btr g m g.size⟩
    · rw [if_neg hT] at j;rw [show decide (T=f)=false from decide_eq_false hT] at h;clear hT;go_wp2_with (go_at_call 242;((with_reducible refine a0c h.out ?_);rintro e w' ⟨rfl,m⟩))
      go_roundw
      case rel=>exact ⟨k+1,by omega,by go_num,by unfold Hid;rw [l.out,j.out],btr g m g.size⟩
      case measure=>simp [intOf];omega
  · go_wp2_with fail
    go_ret;refine ⟨aG ?_,g⟩;rw [l.out,a0B (by omega)];rfl
end
section
open Go.RowKit Go.Maps Go.Shelf
def bD (b:List ci) (a:Bs):List Bs:=(b.filter λs=>a.contains s.code).map ci.text
theorem kw (a:List ci) (b:Bs) (k:Nat) (h:k<a.length):bD (a.take (k+1)) b=bD (a.take k) b++if b.contains a[k].code then [a[k].text] else []:=by
 unfold bD;rw [a0M h,a1c,a0C];congr 1
 generalize a[k]=x;by_cases hc:b.contains x.code=true
 · rw [if_pos hc];simp only [a0w,hc,if_true,List.filter_nil,a0E,List.map_nil]
 · rw [if_neg hc];simp only [a0w,hc,List.filter_nil];rfl
theorem gC (a:List ci) (b:Bs):(bD a b).length<=a.length:=by
 unfold bD;rw [a0z];exact a1p _ _
theorem kA (a:List ci) (b:Bs) (N:Nat) (h:∀s∈a,s.text.length<=N):(dq (bD a b)).length<=a.length * (N+1):=by
 refine a0t (gJ _) ?_;unfold bD;induction a with
 |nil=>simp
 |cons s a ih=>
  have d:=h s a0L;have e:=ih λx c=>h x (a0G _ c);rw [a0w];split
  · simp only [a0E,a0K,a0i,Nat.succ_mul];omega
  · simp only [a0i,Nat.succ_mul];omega
theorem gR (w:a0j) (o:Obj) (x:a0u) (t:TypeId):∀j u,[x][j]? =some u->((w.alloc o).alloc (.cells #[x] t)).cell? ((⟨w.heap.size+1,0,none⟩:Addr).add j)=some u:=by
 have h:=cell_one_new (w.alloc o) x t;rw [a0r] at h;exact h
theorem pw (a i x:Bs) (d:a0u) (f:List ci) (c:UInt8) (w:a0j) (y:az 0 w.heap.size w d f) (R:f.length<=1000000) (t:∀s∈f,s.text.length<=1000000):
 a0p a0b 183 #[.agg #[S a,S i,S x,d], .int .u8 c.toNat] w λe w'=>e= .returned (S (textS f [c]))/\a0e w.heap.size w w':=by
 have K:=a0a y;have I:Hid ((dq (bD f [c])).length<=140737488355328):=by have Y:=kA f [c] 1000000 t;have:f.length * (1000000+1)<=1000000 * 1000001:=a0Z R (a0d _);unfold Hid;omega
 obtain ⟨N,O,rfl,_⟩:=y;clear t;obtain ⟨V,r,A,n,B⟩:=a1i i9;have E:=a0a r;have F:=a0a A;have G:=a0a n;have H:=a0a B;clear r A n B;go_enter Tryz.func183,Tryz.ntmps183;go_wp2_with fail
 go_loopw [5,11] (λv j wr=>∃(k:Nat),k<=f.length/\j= .int .i64 k/\Hid (wr.ownsRow (w.heap.size+1) 9 1 v (bD (f.take k) [c]).length ((bD (f.take k) [c]).map λs=>S s))/\a0e w.heap.size w wr/\w.heap.size+1<=wr.heap.size) (λ_ j _=>f.length - (intOf j).toNat)
 case atStart=>exact ⟨0,a0y _,rfl,a1d _ _ _ _,(a0g _ w).alloc (a0d _) _,by simp⟩
 case round=>
  obtain ⟨k,hk,rfl,l,g,hz⟩:=hrel;by_cases hlt:k<f.length
  · have z:az 0 w.heap.size wr (a08 N f.length O) f:=K.kept (bd g (a0d _));obtain ⟨b,a1,X,U,p,q,W,c1⟩:=z.sub k hlt;cases U;have m:=a0a (kw f [c] k hlt);clear z;generalize f[k].code=C at *;generalize f[k].text=T at *;have Q:(bD (f.take k) [c]).length<=1000000:=by have:=gC (f.take k) [c];rw [a0k] at this;omega
    generalize bD (f.take k) [c]=L at *;have a0:b<wr.heap.size:=by omega
    by_cases hC:C=c
    · subst hC;rw [if_pos (by simp)] at m;go_wp2_with (at_builtin;(refine a0V _ rfl _ _ 81 rfl (w.heap.size+1) 9 V (.string ⟨#[]⟩) 1 16 Tryz.underlying81 E.out F.out G.out H.out rfl a02 u5 L.length (L.map λs=>S s) ?_ ?_ ⟨wr.heap.size+1,0,none⟩ 1 1 [S T] ?_ ?_ ?_ ?_ ?_ ?_ ?_ ?_);(focus rfl);(focus exact ((l.out.alloc _).alloc _));(focus rfl);(focus rfl);(focus exact gR _ _ _ _);(focus simp [a0N]);(focus (unfold maxLen;omega));(focus omega);(focus (simp;omega));intro v' w1 u o _ _;have p:a0e w.heap.size w w1:=((g.alloc g.size _).alloc (by have:=g.size;simp;omega) _).grown o (by have:=g.size;simp;omega) (λj P=>by have:=(l.out.lt j P).1;omega);have n:=o.size;have J:=a0a u;clear u o)
      go_roundw
      case rel=>exact ⟨k+1,by omega,by go_num,by unfold Hid;rw [m.out,a0f,a0C];exact J.out,p,by simp at n;omega⟩
      case measure=>simp [intOf];omega
    · rw [if_neg (by simpa using hC),a0T] at m;have Z:((C.toNat:Int)==(c.toNat:Int))=false:=by have:C.toNat≠c.toNat:=λh=>hC (UInt8.toNat_inj.1 h);simp;omega
      clear hC;go_wp2_with fail
      go_roundw
      case rel=>exact ⟨k+1,by omega,by go_num,by unfold Hid;rw [m.out];exact l.out.alloc _,g.alloc g.size _,by simp;omega⟩
      case measure=>simp [intOf];omega
  · have M:Hid (bD (f.take k) [c]=bD f [c]):=by unfold Hid;rw [a0v (by omega)]
    rw [M.out] at l;have Q:=gC f [c];have D:=a0a (kW (w:=wr) l.out (by omega) I.out);go_wp2_with (go_at_call 244;((with_reducible refine a0c D.out ?_);rintro e w2 ⟨rfl,q⟩))
    go_ret;exact ⟨rfl,btr g q g.size⟩
end
section
open Go.RowKit Go.Maps Go.Shelf
def bigC (v:a0u):Array a0u:=Array.replicate 256 (.slice none 0 0)++ #[v]
theorem dL (v:a0u):(bigC v).size=257:=by simp [bigC]
theorem jA (v:a0u) (k:Nat) (a:k<256):(bigC v)[k]? =some (.slice none 0 0):=by
 unfold bigC;rw [a0U (by simpa using a)];simp [a]
theorem kh (v:a0u):(bigC v)[256]? =some v:=by
 unfold bigC;rw [Array.getElem?_append_right (by simp)];simp
theorem ud (v u:a0u):(bigC v).setIfInBounds 256 u=bigC u:=by
 apply Array.ext_getElem?;intro i;rw [Array.getElem?_setIfInBounds,dL];by_cases h:256=i
 · subst h;simp [kh]
 · rw [if_neg h];by_cases h2:i<256
   · rw [jA _ _ h2,jA _ _ h2]
   · rw [a1m (by rw [dL];omega),a1m (by rw [dL];omega)]
theorem jz {w:a0j} {g:Nat} {v:a0u} (h:w.heap[g]? =some (.cells (bigC v) 403 (0,0))):w.cell? ⟨g,256,none⟩=some v/\w.cell? ⟨g,45,none⟩=some (.slice none 0 0)/\w.cell? ⟨g,32,none⟩=some (.slice none 0 0):=
 ⟨(aa h 256).trans (kh v),(aa h 45).trans (jA v 45 (by decide)),(aa h 32).trans (jA v 32 (by decide))⟩
def fS (v e:a0u):Array a0u:=(bigC v).setIfInBounds 45 e
theorem nm (v e:a0u):(fS v e).size=257:=by unfold fS;rw [Array.size_setIfInBounds,dL]
theorem ya (v e u:a0u):(fS v e).setIfInBounds 256 u=fS u e:=by
 unfold fS;rw [<- ud v u,Array.setIfInBounds_comm _ _ (by decide)]
theorem ip {w:a0j} {g:Nat} {v e:a0u} (h:w.heap[g]? =some (.cells (fS v e) 403 (0,0))):w.cell? ⟨g,256,none⟩=some v/\w.cell? ⟨g,32,none⟩=some (.slice none 0 0):=by
 refine ⟨(aa h 256).trans ?_,(aa h 32).trans ?_⟩
 · unfold fS;rw [a0l (by decide)];exact kh v
 · unfold fS;rw [a0l (by decide)];exact jA v 32 (by decide)
def lK (lo:Nat) (W:a0j) (g:Nat):Prop:=∃(a:Option Addr) (c b1 k1 b2 k2:Nat),W.heap[g]? =some (.cells ((fS (.slice a 2 c) (.slice (some ⟨b1,0,none⟩) 0 k1)).setIfInBounds 32 (.slice (some ⟨b2,0,none⟩) 0 k2)) 403 (0,0))/\W.ownsRow lo 9 1 (.slice a 2 c) 2 [S [45],S [32]]
theorem vU:Tryz.zeroCells403=bigC (.slice none 0 0):=by kernel_rfl
theorem zD (v:a0u):Tryz.zeroCells403.toList.set 256 v=(bigC v).toList:=by kernel_rfl
theorem us (g:Nat) (a:Option Addr) (n k:Nat) (b:Array a0u) (w:a0j) (h:w.heap[g]? =some (.cells b 403 (0,0))) (d:b.size=257):
 ∃w',(storeCells ⟨g,0,none⟩ (Tryz.zeroCells403.toList.set 256 (.slice a n k))).run a0b w= .ok () w'/\w'.heap[g]? =some (.cells (bigC (.slice a n k)) 403 (0,0))/\aq g w w':=by
 have f:(bigC (.slice a n k)).toList.length=257:=by rw [a1t,dL]
 have j:∀v∈(bigC (.slice a n k)).toList,v.oneCell'=true:=by intro v i;simp only [bigC,Array.toList_append,Array.toList_replicate,List.mem_append,List.mem_replicate,List.mem_singleton] at i;rcases i with ⟨_,rfl⟩|rfl<;>rfl
 have c:=run_storeCells_at (P:=a0b) g 0 403 (bigC (.slice a n k)).toList 0 b w h (by rw [f,d];omega) j;rw [f] at c;have e:(b.toList.take (0+0)++(bigC (.slice a n k)).toList++b.toList.drop (0+0+257)).toArray=bigC (.slice a n k):=by
  have:b.toList.drop (0+0+257)=[]:=by apply List.drop_eq_nil_of_le;rw [a1t,d];omega
  rw [this];simp
 rw [e] at c;rw [zD];exact ⟨w.setRow g (bigC (.slice a n k)),c,setRow_heap w g b _ 403 (0,0) h,setRow_os _ _ _,setRow_tape _ _ _,setRow_output _ _ _,setRow_size _ _ _,λk l=>setRow_other w g k _ l⟩
theorem xG (w:a0j):(binOp .eql 76 (.slice none 0 0) (.slice none 0 0)).run a0b w= .ok (.bool true) w:=by kernel_rfl
theorem pZ (w:a0j):(binOp .neq 76 (.slice none 0 0) (.slice none 0 0)).run a0b w= .ok (.bool false) w:=by kernel_rfl
theorem mS (g n k:Nat) (w:a0j):(binOp .neq 76 (.slice (some ⟨g,0,none⟩) n k) (.slice none 0 0)).run a0b w= .ok (.bool true) w:=by kernel_rfl
theorem lq (W:a0j):∃(k:Nat) (W':a0j),(convert 9 76 (S [])).run a0b W= .ok (.slice (some ⟨W.heap.size,0,none⟩) 0 k) W'/\a0e W.heap.size W W':=by
 refine ⟨_,_,Lib.run_convert_string_bytes W 9 76 5 ⟨#[]⟩ Tryz.underlying9 Tryz.underlying76 Tryz.underlying5,rfl,rfl,rfl,?_,λk a=>Lib.bytesWorld_at_old _ _ _ _ a⟩;rw [Lib.bytesWorld_size];omega
def onC (a:Array a0u):Array a0u:= #[S [32],S [],S [45],S []]++a
theorem gV (a:Array a0u):(onC a)[0]? =some (S [32])/\(onC a)[1]? =some (S [])/\(onC a)[2]? =some (S [45])/\(onC a)[3]? =some (S []):=by
 unfold onC;refine ⟨?_,?_,?_,?_⟩<;>(rw [a0U (by simp)];rfl)
theorem yL (w:a0j):(Instr.makeSlice 81 (.int .i64 0) (.int .i64 2)).run a0b w= .ok (.slice (some ⟨w.heap.size,0,none⟩) 0 2) (w.alloc (.cells #[S [],S []] 9)):=by kernel_rfl
theorem vK (R on kk:Nat) (d:Array a0u) (x y z q:a0u) (w:a0j) (hR:w.heap[R]? =some (.cells #[x,y,z,q, .slice (some ⟨on,0,none⟩) 4 kk] 355 (0,0))) (t:w.heap[on]? =some (.cells (onC d) 9 (0,0))):
 a0p a0b 322 #[.pointer (some ⟨R,0,none⟩)] w λe w'=>e= .returned (.iface 404 (.pointer (some ⟨w.heap.size+1,0,none⟩)))/\a0e w.heap.size w w'/\lK w.heap.size w' (w.heap.size+1)/\w.heap.size+1<w'.heap.size:=by
 have r4:w.cell? ⟨R,4,none⟩=some (.slice (some ⟨on,0,none⟩) 4 kk):=(aa hR 4).trans rfl;have n0:w.cell? ⟨on,0,none⟩=some (S [32]):=(aa t 0).trans (gV d).1;have n1:w.cell? ⟨on,1,none⟩=some (S []):=(aa t 1).trans (gV d).2.1;have n2:w.cell? ⟨on,2,none⟩=some (S [45]):=(aa t 2).trans (gV d).2.2.1;have n3:w.cell? ⟨on,3,none⟩=some (S []):=(aa t 3).trans (gV d).2.2.2;have HR:=a0a hR;have HO:=a0a t;clear hR t;go_enter Tryz.func322,Tryz.ntmps322;go_wp2_with fail
 refine a0P 3 ?_;rw [a0q];go_wp2_with fail
 rw [a0q];go_wp2_with fail
 rw [a0q];go_upto_region 26 with fail
 have b8:=yL w;obtain ⟨w1,G⟩:∃w1,w.alloc (.cells #[S [],S []] 9)=w1:=⟨_,rfl⟩;have U:w1.heap.size=w.heap.size+1:=by rw [<- G];simp
 have b5:w1.heap[w.heap.size]? =some (.cells #[S [],S []] 9 (0,0)):=by rw [<- G];exact a0h w _
 have b6:a0e w.heap.size w w1:=by rw [<- G];exact (a0g _ w).alloc (a0d _) _
 rw [G] at b8;obtain ⟨l,T⟩:∃l,w1.alloc (.cells Tryz.zeroCells403 403)=l:=⟨_,rfl⟩;have b4:l.heap[w1.heap.size]? =some (.cells Tryz.zeroCells403 403 (0,0)):=by rw [<- T];exact a0h w1 _
 have ac:a0e w1.heap.size w1 l:=by rw [<- T];exact (a0g _ w1).alloc (a0d _) _
 obtain ⟨a,bb,a7,b9⟩:=us w1.heap.size (some ⟨w.heap.size,0,none⟩) 0 2 _ l b4 (by rw [vU];exact dL _);rw [U] at bb a7;have cc:Hid (a0e w.heap.size w l):=b6.trans (ac.mono (by omega));have c9:Hid (l.heap[w.heap.size]? =some (.cells #[S [],S []] 9 (0,0))):=(ac.block _ (by omega)).trans b5;have a2:Hid (aq (w.heap.size+1) l a):=by rw [<- U];exact b9
 have J:=a0a a7;have cg:Hid (l.heap.size=w.heap.size+2):=by unfold Hid;rw [<- T];simp [U]
 clear b4 ac a7 b9 b5 b6;go_wp2_with fail
 have ad:a0e w.heap.size w a:=cc.out.trans (a2.out.below (by omega));have aC:on<w.heap.size:=ae HO.out;have u:a.heap[on]? =some (.cells (onC d) 9 (0,0)):=(ad.block _ aC).trans HO.out;have v:a.heap[w.heap.size]? =some (.cells #[S [],S []] 9 (0,0)):=(a2.out.block _ (by omega)).trans c9.out;obtain ⟨ch,cl,_⟩:=jz J.out;have cv:=ab J.out 45;have cq:=ab J.out 256;have m0:a.cell? ⟨on,0,none⟩=some (S [32]):=(aa u 0).trans (gV d).1;have m1:a.cell? ⟨on,1,none⟩=some (S []):=(aa u 1).trans (gV d).2.1;have m2:a.cell? ⟨on,2,none⟩=some (S [45]):=(aa u 2).trans (gV d).2.2.1;have m3:a.cell? ⟨on,3,none⟩=some (S []):=(aa u 3).trans (gV d).2.2.2;have t0:a.cell? ⟨w.heap.size,0,none⟩=some (S []):=(aa v 0).trans rfl;have t1:a.cell? ⟨w.heap.size,1,none⟩=some (S []):=(aa v 1).trans rfl;have ft0:=ab v 0;have cx:=ab v 1;have aS:a.heap.size=w.heap.size+2:=by rw [a2.out.size];exact cg.out
 have dc:¬(w.heap.size+1=w.heap.size):=by omega
 have dd:¬(w.heap.size=w.heap.size+1):=by omega
 have bA:=a0a ad;have c3:=a0a u;have cb:=a0a v;have C:=a0a aS;have c4:=a0a aC;clear ad aC u v aS r4 n0 n1 n2 n3 U b8 bb G T;have da:=xG;obtain ⟨i0,hi,bc,bk,bs⟩:=a1i i9;have HI:=a0a hi;have b0:=a0a bc;have b1:=a0a bk;have b2:=a0a bs;have c5:Hid (a.ownsRow w.heap.size 9 1 (.slice (some ⟨w.heap.size,0,none⟩) 0 2) 0 (([]:List Bs).map λs=>S s)):=⟨by simp, .inr ⟨w.heap.size,2, #[S [],S []],rfl,a0d _,cb.out,by omega,by unfold maxLen;omega,by simp,by simp⟩⟩;clear hi bc bk bs t0 t1 ft0 cx;refine a0P 3 ?_;rw [a0q];go_upto_region 33 with fail
 go_wp2_with (at_builtin;go_loud ((refine a0V _ rfl _ _ 81 rfl w.heap.size 9 i0 (.string ⟨#[]⟩) 1 16 Tryz.underlying81 HI.out b0.out b1.out b2.out rfl a02 (.slice (some ⟨w.heap.size,0,none⟩) 0 2) 0 (([]:List Bs).map λs=>S s) ?_ ?_ ⟨a.heap.size+1,0,none⟩ 1 1 [S [45]] ?_ ?_ ?_ ?_ ?_ ?_ ?_ ?_);(focus rfl);(focus exact ((c5.out.alloc _).alloc _));(focus rfl);(focus rfl);(focus exact gR _ _ _ _);(focus simp [a0N]);(focus (unfold maxLen;omega));(focus omega);(focus (have:=C.out;simp;omega));intro v' c o n _ _;obtain ⟨V,p,rfl⟩:=bH o;have D:c.heap[w.heap.size+1]? =some (.cells (bigC (.slice (some ⟨w.heap.size,0,none⟩) 0 2)) 403 (0,0)):=(n.block _ (by have:=C.out;simp;omega) (λe=>(by have f:some (w.heap.size+1)=some w.heap.size:=e;simp at f))).trans (by rw [a0n _ _ _ (by have:=C.out;simp;omega),a0n _ _ _ (by have:=C.out;omega)];exact J.out);obtain ⟨a5,b3,K⟩:=jz D;have a6:=ab D 256;have bt:=n.size;have L:=an D 256 (.slice V 1 p);rw [ud] at L;obtain ⟨H,Y,av,al⟩:=lq (c.setCell ⟨w.heap.size+1,256,none⟩ (.slice V 1 p));have O:Y.heap[w.heap.size+1]? =some (.cells (bigC (.slice V 1 p)) 403 (0,0)):=(al.block _ (ae L)).trans L;obtain ⟨_,b3,K⟩:=jz O;have cz:=ab O 45;have bO:=a0a D;have bY:=a0a O;have Z:=a0a al;have a3:=a0a o;have a1:=a0a n;clear D O L al o n bt))
 have aS:=C.out;have bt:a.heap.size+2<=c.heap.size:=by have:=a1.out.size;simpa using this
 have d0:c.heap.size<=Y.heap.size:=by have:=Z.out.size;simpa using this
 obtain ⟨b,rfl,N⟩:∃b,V=some ⟨b,0,none⟩/\w.heap.size<=b/\b≠w.heap.size+1/\b<c.heap.size:=by
  obtain ⟨g,cm,k,ax,ay⟩:=a01 a3.out (by omega);injection k with k _ _
  obtain ⟨cu,au⟩:=aD a3.out (g:=g) (by rw [k];rfl);exact ⟨g,k,ax,dj au bO.out (by decide),ay⟩
 obtain ⟨h,A⟩:∃h,Y.setCell ⟨w.heap.size+1,45,none⟩ (.slice (some ⟨c.heap.size,0,none⟩) 0 H)=h:=⟨_,rfl⟩;have a8:h.heap[w.heap.size+1]? =some (.cells (fS (.slice (some ⟨b,0,none⟩) 1 p) (.slice (some ⟨c.heap.size,0,none⟩) 0 H)) 403 (0,0)):=by rw [<- A];exact an bY.out 45 _
 have Q:∀q,q<c.heap.size->q≠w.heap.size+1->h.heap[q]? =c.heap[q]? :=λq hq F=>by rw [<- A,a0J _ _ _ _ F,Z.out.block q (by simpa using hq),a0J _ _ _ _ F]
 have dk:c.heap.size<=h.heap.size:=by rw [<- A];simpa using d0
 have a9:h.heap[on]? =some (.cells (onC d) 9 (0,0)):=by have:=c4.out;rw [Q on (by omega) (by omega),a1.out.block on (by simp;omega) (λe=>(by have f:some on=some w.heap.size:=e;injection f with f;omega)),a0n _ _ _ (by simp;omega),a0n _ _ _ (by omega)];exact c3.out
 have p0:h.cell? ⟨on,0,none⟩=some (S [32]):=(aa a9 0).trans (gV d).1;have p1:h.cell? ⟨on,1,none⟩=some (S []):=(aa a9 1).trans (gV d).2.1;obtain ⟨dy,dz⟩:=ip a8;have c6:Hid (h.ownsRow w.heap.size 9 1 (.slice (some ⟨b,0,none⟩) 1 p) 1 (([[45]]:List Bs).map λs=>S s)):=ah a3.out (λg hg=>by
  have f:b=g:=by have:some b=some g:=hg;injection this
  subst f;exact Q _ N.2.2 N.2.1)
 have c0:=a0a a8;have d3:=a0a Q;have d2:=a0a N;have cd:=a0a A;rw [A];clear A Q a8 a9 av a5 b3 K a6 cz ch cl cv cq m0 m1 m2 m3;obtain ⟨d4,d5,d6⟩:=N;rw [a0q];go_upto_region 33 with fail
 go_wp2_with (at_builtin;go_loud ((refine a0V _ rfl _ _ 81 rfl w.heap.size 9 i0 (.string ⟨#[]⟩) 1 16 Tryz.underlying81 HI.out b0.out b1.out b2.out rfl a02 (.slice (some ⟨b,0,none⟩) 1 p) 1 (([[45]]:List Bs).map λs=>S s) ?_ ?_ ⟨h.heap.size+1,0,none⟩ 1 1 [S [32]] ?_ ?_ ?_ ?_ ?_ ?_ ?_ ?_);(focus rfl);(focus exact ((c6.out.alloc _).alloc _));(focus rfl);(focus rfl);(focus exact gR _ _ _ _);(focus simp [a0N]);(focus (unfold maxLen;omega));(focus omega);(focus (simp;omega));intro v' i o n _ _;obtain ⟨W,X,rfl⟩:=bH o;have E:i.heap[w.heap.size+1]? =some (.cells (fS (.slice (some ⟨b,0,none⟩) 1 p) (.slice (some ⟨c.heap.size,0,none⟩) 0 H)) 403 (0,0)):=(n.block _ (by simp;omega) (λe=>(by have f:some (w.heap.size+1)=some b:=e;injection f with f;omega))).trans (by rw [a0n _ _ _ (by simp;omega),a0n _ _ _ (by omega)];exact c0.out);obtain ⟨a5,K⟩:=ip E;have a6:=ab E 256;have M:=an E 256 (.slice W 2 X);rw [ya] at M;obtain ⟨k9,I,av,ao⟩:=lq (i.setCell ⟨w.heap.size+1,256,none⟩ (.slice W 2 X));have P:I.heap[w.heap.size+1]? =some (.cells (fS (.slice W 2 X) (.slice (some ⟨c.heap.size,0,none⟩) 0 H)) 403 (0,0)):=(ao.block _ (ae M)).trans M;obtain ⟨_,cp⟩:=ip P;have cy:=ab P 32;have c1:=a0a E;have c2:=a0a P;have a0:=a0a ao;have a4:=a0a o;have aT:=a0a n;clear E P M ao o n))
 obtain ⟨m,rfl,d8,cP,cQ⟩:∃m,W=some ⟨m,0,none⟩/\w.heap.size<=m/\m≠w.heap.size+1/\m<i.heap.size:=by
  obtain ⟨g,cm,k,ax,ay⟩:=a01 a4.out (by omega);injection k with k _ _
  obtain ⟨cu,au⟩:=aD a4.out (g:=g) (by rw [k];rfl);exact ⟨g,k,ax,dj au c1.out (by decide),ay⟩
 have ds:h.heap.size+2<=i.heap.size:=by have:=aT.out.size;simpa using this
 have dx:i.heap.size<=I.heap.size:=by have:=a0.out.size;simpa using this
 obtain ⟨r,B⟩:∃r,I.setCell ⟨w.heap.size+1,32,none⟩ (.slice (some ⟨i.heap.size,0,none⟩) 0 k9)=r:=⟨_,rfl⟩;have b7:∀q,q<i.heap.size->q≠w.heap.size+1->r.heap[q]? =i.heap[q]? :=λq hq F=>by rw [<- B,a0J _ _ _ _ F,a0.out.block q (by simpa using hq),a0J _ _ _ _ F]
 have c7:Hid (lK w.heap.size r (w.heap.size+1)):=⟨some ⟨m,0,none⟩,X,c.heap.size,H,i.heap.size,k9,by rw [<- B];exact an c2.out 32 _,ah a4.out (λg hg=>by
  have f:m=g:=by have:some m=some g:=hg;injection this
  subst f;exact b7 _ cQ cP)⟩
 have bB:Hid (a0e w.heap.size w r):=by
  have h3:a0e w.heap.size w a:=bA.out;have h4:a0e w.heap.size w c:=(((h3.alloc (by omega) _).alloc (by simp;omega) _)).grown a1.out (by simp;omega) (λj ej=>by have f:w.heap.size=j:=by {have:some w.heap.size=some j:=ej;injection this};omega);have h5:a0e w.heap.size w Y:=(h4.setCell (by simp) _).trans (Z.out.mono (by simp;omega));have h6:a0e w.heap.size w h:=by rw [<- cd.out];exact h5.setCell (by simp) _
  have h8:a0e w.heap.size w i:=(((h6.alloc (by omega) _).alloc (by simp;omega) _)).grown aT.out (by simp;omega) (λj ej=>by have f:b=j:=by {have:some b=some j:=ej;injection this};omega);have h9:a0e w.heap.size w I:=(h8.setCell (by simp) _).trans (a0.out.mono (by simp;omega));have:a0e w.heap.size w (I.setCell ⟨w.heap.size+1,32,none⟩ (.slice (some ⟨i.heap.size,0,none⟩) 0 k9)):=h9.setCell (by simp) _;rw [B] at this;exact this
 have d1:w.heap.size+1<r.heap.size:=by rw [<- B];simp;omega
 rw [B];clear B b7 av a5 K cp a6 cy;rw [a0q];go_wp2_with fail
 go_ret;exact ⟨rfl,bB.out,c7.out,d1⟩
end
section
open Go.RowKit Go.Maps Go.Shelf
theorem wW (R on f N:Nat) (k:Array a0u) (B:R<N):jD R (.slice (some ⟨on,0,none⟩) 4 f) (.iface 404 (.pointer (some ⟨N+1,0,none⟩)))
 (λw=>w.heap.size=N/\w.heap[on]? =some (.cells (onC k) 9 (0,0))) (λw w'=>ag (λq=>q=R) w (λq=>q=R) w'/\lK N w' (N+1)):=by
 intro w A h;obtain ⟨rfl,m⟩:=A;have p:=a0a (vK R on f k _ _ _ _ w h m);have r:=a0a h;clear h m;go_enter Tryz.func289,Tryz.ntmps289;go_wp2_with (go_at_call 322;refine a0c p.out ?_;rintro e d ⟨rfl,i,n,J⟩;have b:d.heap[R]? =some (.cells #[.int .u32 0, .int .i32 1, .int .u32 0, .nilIface, .slice (some ⟨on,0,none⟩) 4 f] 355 (0,0)):=(i.block R B).trans r.out;have F:d.cell? ⟨R,3,none⟩=some .nilIface:=(aa b 3).trans rfl;have G:d.cell? ⟨R,4,none⟩=some (.slice (some ⟨on,0,none⟩) 4 f):=(aa b 4).trans rfl;have H:=ab b 3;have I:=ab b 4;have s:=a0a b;have o:=a0a i;have t:=a0a n;clear b i n)
 refine bodyPost_end (results_none rfl _ _ _) rfl ?_;have y:=an s.out 3 (.iface 404 (.pointer (some ⟨w.heap.size+1,0,none⟩)));have z:=an y 4 (.slice none 0 0);have j:aq R d ((d.setCell ⟨R,3,none⟩ (.iface 404 (.pointer (some ⟨w.heap.size+1,0,none⟩)))).setCell ⟨R,4,none⟩ (.slice none 0 0)):=((aq.refl R d).setCell 3 _).setCell 4 _;refine ⟨rfl,z,(ag.of_below o.out).trans (ag.of_only j rfl),?_⟩;obtain ⟨a,c,u,D,v,E,x,l⟩:=t.out;exact ⟨a,c,u,D,v,E,(j.block _ (by omega)).trans x,ah l (λg C=>j.block g (λe=>by have:=(l.lt g C).1;omega))⟩
theorem yJ (w:a0j) (A:Nat) (b:w.heap[A]? =some (.cells #[S [32],S [],S [45],S []] 9 (0,0))):a0p a0b 237 #[.slice (some ⟨A,0,none⟩) 4 4] w λe w'=>∃R on a c,e= .returned (.pointer (some ⟨R,0,none⟩))/\w.heap.size<=R/\w.heap.size<=on/\R≠on/\
 w'.heap[R]? =some (.cells #[.int .u32 0, .int .i32 0, .int .u32 0, .nilIface, .slice (some ⟨on,0,none⟩) 4 a] 355 (0,0))/\w'.heap[on]? =some (.cells (onC c) 9 (0,0))/\a0e w.heap.size w w':=by
 have d:w.cell? ⟨A,0,none⟩=some (S [32]):=(aa b 0).trans rfl;have f:w.cell? ⟨A,1,none⟩=some (S []):=(aa b 1).trans rfl;have g:w.cell? ⟨A,2,none⟩=some (S [45]):=(aa b 2).trans rfl;have h:w.cell? ⟨A,3,none⟩=some (S []):=(aa b 3).trans rfl;clear b;go_enter Tryz.func237,Tryz.ntmps237;go_wp2_with fail
 generalize (Question.appendCap 4 0 9).cut (w.tape w.drawn (Question.appendCap 4 0 9))=a;refine a0Q (v:= .pointer (some ⟨w.heap.size+1,0,none⟩)) (by rw [results_tmp rfl];go_simp) rfl ?_;refine ⟨w.heap.size+1,w.heap.size,a,Builtin.zeroCells #[a0H {data:= #[]}] (a - 4),rfl,by omega,a0d _,by omega,?_,?_,?_⟩
 · have:=a0h (w.alloc (.cells (#[S [32],S [],S [45],S []]++Builtin.zeroCells #[a0H {data:= #[]}] (a - 4)) 9)) (.cells #[.int .u32 0, .int .i32 0, .int .u32 0, .nilIface, .slice (some ⟨w.heap.size,0,none⟩) 4 a] 355);rw [a0r] at this;exact this
 · show ((w.alloc _).alloc _).heap[w.heap.size]? =_;rw [a0n _ _ _ (by simp)];exact a0h w _
 · exact (((a0g _ w).alloc (a0d _) _).alloc (by simp) _).drew
end
section
open Go.RowKit Go.Maps Go.Shelf
def eJ (b:UInt8):Bool:=decide (b=32)||decide (b=45)
def keepL (s:Bs):Bs:=s.filter λb=> !eJ b
def cntL (s:Bs):Nat:=s.count 45+s.count 32
theorem uX (b:UInt8) (s:Bs):keepL (b::s)=if eJ b then keepL s else b::keepL s:=by
 unfold keepL;rw [a0w];cases eJ b<;>rfl
theorem xT (b:UInt8) (s:Bs):cntL (b::s)=cntL s+if eJ b then 1 else 0:=by
 unfold cntL;rw [List.count_cons,List.count_cons];by_cases h1:b=32
 · subst h1;have c:((32:UInt8)==45)=false:=rfl;have a:eJ 32=true:=rfl;simp [c,a];omega
 · by_cases h2:b=45
   · subst h2;have c:((45:UInt8)==32)=false:=rfl;have a:eJ 45=true:=rfl;simp [c,a];omega
   · have a:eJ b=false:=by unfold eJ;rw [decide_eq_false h1,decide_eq_false h2];rfl
     simp [h1,h2,a]
theorem gk (s:Bs):(keepL s).length+cntL s=s.length:=by
 induction s with
 |nil=>rfl
 |cons b s ih=> rw [uX,xT,a0i];cases eJ b<;>simp<;>omega
theorem xm {s:Bs} (h:cntL s=0):keepL s=s:=by
 have a:=gk s;rw [h] at a;exact List.filter_eq_self.2 (λb c=>by have:(s.filter λb=> !eJ b).length=s.length:=a;exact List.length_filter_eq_length_iff.1 this b c)
theorem jm {s:Bs} {k:Nat} (a:k<s.length):keepL (s.take (k+1))=keepL (s.take k)++(if eJ s[k] then [] else [s[k]]):=by
 unfold keepL;rw [a0M a,a1c,a0w];cases eJ s[k]<;>rfl
theorem xS {s:Bs} {k:Nat} (c:k<s.length):cntL (s.take (k+1))=cntL (s.take k)+(if eJ s[k] then 1 else 0):=by
 have a:=gk (s.take (k+1));have b:=gk (s.take k);rw [jm c,a0f] at a;rw [a0k] at a b;have:min (k+1) s.length=k+1:=by omega
 have:min k s.length=k:=by omega
 cases hs:eJ s[k]<;>simp [hs] at a ⊢ <;>omega
theorem oC (s:Bs) (k:Nat):(keepL (s.take k)).length<=(keepL s).length:=by
 have:keepL s=keepL (s.take k)++keepL (s.drop k):=by unfold keepL;rw [<- a1c,a1n]
 rw [this,a0f];omega
def byteRow (l:Bs):Array a0u:=(l.map λb=>a07 .u8 b.toNat).toArray
def io (s:Bs) (k:Nat):Bs:=keepL (s.take k)++a0A ((keepL s).length - (keepL (s.take k)).length) 0
theorem rm (s:Bs) (k:Nat):(io s k).length=(keepL s).length:=by
 unfold io;have:=oC s k;rw [a0f,List.length_replicate];omega
theorem vL (s:Bs):io s 0=a0A (keepL s).length 0:=by unfold io;simp [keepL]
theorem x8 (s:Bs):io s s.length=keepL s:=by unfold io;simp
theorem vM {s:Bs} {k:Nat} (b:k<s.length) (h:eJ s[k]=true):io s (k+1)=io s k/\(keepL (s.take (k+1))).length=(keepL (s.take k)).length:=by
 have a:keepL (s.take (k+1))=keepL (s.take k):=by rw [jm b,if_pos h,a0T]
 unfold io;rw [a];exact ⟨rfl,rfl⟩
theorem xZ {s:Bs} {k:Nat} (c:k<s.length) (h:eJ s[k]=false):io s (k+1)=(io s k).set (keepL (s.take k)).length s[k]/\(keepL (s.take (k+1))).length=(keepL (s.take k)).length+1/\(keepL (s.take k)).length<(keepL s).length:=by
 have a:keepL (s.take (k+1))=keepL (s.take k)++[s[k]]:=by rw [jm c,h];rfl
 have b:=oC s (k+1);rw [a,a0f] at b;simp only [a1o] at b;refine ⟨?_,by rw [a];simp,by omega⟩;unfold io;rw [a,a0f,a1o];obtain ⟨m,d⟩:∃m,(keepL s).length - (keepL (s.take k)).length=m+1:=⟨(keepL s).length - (keepL (s.take k)).length - 1,by omega⟩;have e:(keepL s).length - ((keepL (s.take k)).length+1)=m:=by omega
 rw [d,e,List.replicate_succ,List.set_append_right _ _ (a0d _),Nat.sub_self,List.set_cons_zero,List.append_assoc];rfl
theorem rj (l:Bs) (k:Nat) (b:UInt8):(byteRow l).setIfInBounds k (.int .u8 b.toNat)=byteRow (l.set k b):=by
 unfold byteRow;rw [List.setIfInBounds_toArray,List.map_set]
theorem iU (l:Bs):(byteRow l).size=l.length:=by simp [byteRow]
theorem yM (n:Nat) (g:n<=1000000000) (w:a0j):(Instr.makeSlice 76 (.int .i64 n) (.int .i64 n)).run a0b w= .ok (.slice (some ⟨w.heap.size,0,none⟩) n n) (w.alloc (.cells (byteRow (a0A n 0)) 5)):=by
 obtain ⟨i,b,d,c,a⟩:=a1i (show (Tryz.prog.info? 5).map (λi=>(i.zero,i.size,i.bytes))=some (some (.int .u8 0),1,1) by kernel_rfl);rw [run_make w 76 5 i (.int .u8 0) Tryz.underlying76 b d .i64 .i64 n n (by omega) (by omega) (by rw [a];omega) (by omega)];have:madeCells (a07 .u8 0).cells ((n:Int).toNat * i.size)=byteRow (a0A n 0):=by
  rw [c];unfold byteRow;apply Array.ext
  · simp [madeCells]
  · intro j e f;simp [madeCells,Value.cells,Nat.mod_one]
 rw [this];rfl
end
section
open Go.RowKit Go.Maps Go.Shelf
structure yf (g bt rc:Nat) (W:a0j):Prop where
 sep:∀b:UInt8,eJ b=true->∃q k:Nat,W.cell? ⟨g,b.toNat,none⟩=some (.slice (some ⟨q,0,none⟩) 0 k)
 no:∀b:UInt8,eJ b=false->W.cell? ⟨g,b.toNat,none⟩=some (.slice none 0 0)
 all:W.cell? ⟨g,256,none⟩=some (.slice (some ⟨bt,0,none⟩) 2 rc)
 one:W.cell? ⟨bt,0,none⟩=some (S [45])
 two:W.cell? ⟨bt,1,none⟩=some (S [32])
theorem lK.cells {lo g:Nat} {w:a0j} (h:lK lo w g):∃c f,∀W,a0e w.heap.size w W->yf g c f W:=by
 obtain ⟨z,f,k,o,l,p,m,i⟩:=h;obtain ⟨c,u,j,v,x⟩:=a01 i (by omega);injection j with j _ hc
 subst j;refine ⟨c,f,λW a=>?_⟩;have d:=(a.block _ (ae m)).trans m;have n:=ah i (λq t=>a.block q (i.lt q t).2);have y:((fS (.slice (some ⟨c,0,none⟩) 2 f) (.slice (some ⟨k,0,none⟩) 0 o)).setIfInBounds 32 (.slice (some ⟨l,0,none⟩) 0 p)).size=257:=by rw [Array.size_setIfInBounds,nm]
 refine ⟨λb a=>?_,λb a=>?_,?_,?_,?_⟩
 · rcases (by simpa [eJ] using a:b=32∨b=45) with rfl|rfl
   · refine ⟨l,p,(aa d _).trans ?_⟩;show ((fS _ _).setIfInBounds 32 _)[32]? =_;rw [Array.getElem?_setIfInBounds_self_of_lt (by rw [nm];omega)]
   · refine ⟨k,o,(aa d _).trans ?_⟩;show ((fS _ _).setIfInBounds 32 _)[45]? =_;rw [a0l (by decide)];unfold fS;rw [Array.getElem?_setIfInBounds_self_of_lt (by rw [dL];omega)]
 · have r:b≠32:=λe=>by subst e;cases a
   have s:b≠45:=λe=>by subst e;cases a
   refine (aa d _).trans ?_;rw [a0l (show (32:Nat)≠b.toNat from λe=>r (UInt8.toNat_inj.1 (show b.toNat=(32:UInt8).toNat from e.symm)))];unfold fS;rw [a0l (show (45:Nat)≠b.toNat from λe=>s (UInt8.toNat_inj.1 (show b.toNat=(45:UInt8).toNat from e.symm)))];exact jA _ _ b.toNat_lt
 · refine (aa d _).trans ?_;rw [a0l (by decide)];unfold fS;rw [a0l (by decide)];exact kh _
 · have:=n.cellAt 0 (by simp);exact this.trans rfl
 · have:=n.cellAt 1 (by simp);exact this.trans rfl
theorem vA (a:Option Addr) (n c q k:Nat) (w:a0j):(Builtin.copy_ #[76,76] 3 #[.slice a n c, .slice (some ⟨q,0,none⟩) 0 k]).run a0b w= .ok (.int .i64 0) w:=by
 cases hq:Tryz.prog.info? 5 with
 |none=>exact absurd hq (by decide+kernel)
 |some i=>cases a<;>simp [Builtin.copy_,run_underlying Tryz.underlying76,Builtin.lenOf,Builtin.firstCells,Go.sizeOf,typeInfo,hq,loadCellsFrom,storeCells,loadCells,goInt]
theorem w64 (x:Int) (a: -9223372036854775808<=x) (b:x<=9223372036854775807):wrap64 x=x:=IntWalk.wrap64_in x ⟨a,b⟩
theorem pT (lo g:Nat) (s:Bs) (w:a0j) (h:lK lo w g) (hs:s.length<=1000000000):a0p a0b 394 #[.pointer (some ⟨g,0,none⟩),S s] w λe w'=>e= .returned (S (keepL s))/\a0e w.heap.size w w':=by
 obtain ⟨bt,rc,a6⟩:=h.cells;have D:=a0a a6;have bA:g<w.heap.size:=by obtain ⟨_,_,_,_,_,_,hG,_⟩:=h;exact ae hG
 obtain ⟨K,Q⟩:∃K,keepL s=K:=⟨_,rfl⟩;obtain ⟨N,hN⟩:∃N,K.length=N:=⟨_,rfl⟩;obtain ⟨m,hm⟩:∃m,decide (cntL s≠0)=m:=⟨_,rfl⟩;have l:=a0a Q;have E:=a0a hN;have V:=a0a hm;have ax:N+cntL s=s.length:=by rw [<- hN, <- Q];exact gk s
 have ac:=a0a ax;have b6:N<=1000000000:=by omega
 obtain ⟨_,_,b2,t0,t1⟩:=a6 w (a0g _ w);rw [Q];clear h a6 Q hN hm ax;go_enter Tryz.func394,Tryz.ntmps394;go_upto_if 26 with fail
 go_cut [5,6] (λn y wx=>n= .int .i64 N/\y= .bool m/\∃k,wx=w.drewN k)
 case first=>
  by_cases hL:(16:Int)<=s.length
  · have hd:decide ((16:Int)<=s.length)=true:=decide_eq_true hL;have a1:Hid (∀(c:UInt8) W,a0p a0b 396 #[S s,S [c]] W λe w'=>e= .returned (.int .i64 (s.count c))/\w'=W):=λc W=>vz s c W;have HA:Hid (∀W,a0p a0b 396 #[S s,S [45]] W λe w'=>e= .returned (.int .i64 (s.count 45))/\w'=W):=λW=>a1 45 W;have L:Hid (∀W,a0p a0b 396 #[S s,S [32]] W λe w'=>e= .returned (.int .i64 (s.count 32))/\w'=W):=λW=>a1 32 W;have Z:=ac.out;have a2:=V.out;unfold cntL at Z a2;obtain ⟨q1,j1,b4⟩:=(D w (a0g _ w)).sep 45 rfl;obtain ⟨q2,j2,b3⟩:=(D w (a0g _ w)).sep 32 rfl;change w.cell? ⟨g,45,none⟩=_ at b4;change w.cell? ⟨g,32,none⟩=_ at b3;generalize s.count 45=A at *;generalize s.count 32=B at *;clear a1;have e0:IntKind.i64.wrap ((A:Int) * -1)= -(A:Int):=by rw [Int.mul_neg_one];exact a0F _ (by omega)
    have e1:IntKind.i64.wrap ((s.length:Int)+ -(A:Int))=((N+B:Nat):Int):=(a0F _ (by omega)).trans (by omega);have e2:IntKind.i64.wrap ((B:Int) * -1)= -(B:Int):=by rw [Int.mul_neg_one];exact a0F _ (by omega)
    have e3:IntKind.i64.wrap (((N+B:Nat):Int)+ -(B:Int))=(N:Int):=(a0F _ (by omega)).trans (by omega);have Y:A=0->IntKind.i64.wrap ((s.length:Int)+ -(B:Int))=(N:Int):=λh=>(a0F _ (by omega)).trans (by omega);have aS:=a0a Y;have J:=a0a Z;have X:=a0a a2;clear Y Z a2;go_wp2_with fail
    refine a0P 3 ?_;rw [a0q];by_cases hA:A=0
    · have b5:((A:Int)!=0)=false:=by simp [hA]
      have Y:=aS hA;have I:=a0a hA;clear hA;go_wp2_with (go_at_call 396;((with_reducible refine a0c (HA.out _) ?_);rintro e w1 ⟨rfl,rfl⟩))
      rw [a0q];by_cases hB:B=0
      · have a0:((B:Int)!=0)=false:=by simp [hB]
        have b:Hid (s.length=N/\false=m):=⟨by have:=J.out;have:=I.out;omega,by rw [<- X.out,I.out,hB];rfl⟩;clear hB;go_wp2_with (go_at_call 396;((with_reducible refine a0c (L.out _) ?_);rintro e w1 ⟨rfl,rfl⟩))
        rw [a0q];go_wp2_with fail
        go_meet;exact ⟨by rw [b.out.1],by rw [b.out.2],0,rfl⟩
      · have a0:((B:Int)!=0)=true:=by simp;omega
        have b:Hid (true=m):=by unfold Hid;rw [<- X.out];simp;omega
        clear hB;go_wp2_with (go_at_call 396;((with_reducible refine a0c (L.out _) ?_);rintro e w1 ⟨rfl,rfl⟩))
        go_region;go_wp2_with fail
        rw [a0q];go_wp2_with fail
        go_meet;exact ⟨congrArg (a07 .i64) (by have h1:=J.out;have h2:=I.out;rw [w64 (-(B:Int)) (by omega) (by omega),w64 _ (by omega) (by omega)];omega),by rw [b.out],1,rfl⟩
    · have b5:((A:Int)!=0)=true:=by simp;omega
      have b:Hid (true=m):=by unfold Hid;rw [<- X.out];simp;omega
      have I:=a0a hA;clear hA;go_wp2_with (go_at_call 396;((with_reducible refine a0c (HA.out _) ?_);rintro e w1 ⟨rfl,rfl⟩))
      go_region;go_wp2_with fail
      rw [a0q];by_cases hB:B=0
      · have a0:((B:Int)!=0)=false:=by simp [hB]
        have U:=a0a hB;clear hB;go_wp2_with (go_at_call 396;((with_reducible refine a0c (L.out _) ?_);rintro e w1 ⟨rfl,rfl⟩))
        rw [a0q];go_wp2_with fail
        go_meet;exact ⟨congrArg (a07 .i64) (by have h1:=J.out;have h2:=U.out;rw [w64 (-(A:Int)) (by omega) (by omega),w64 _ (by omega) (by omega)];omega),by rw [b.out],1,rfl⟩
      · have a0:((B:Int)!=0)=true:=by simp;omega
        clear hB;go_wp2_with (go_at_call 396;((with_reducible refine a0c (L.out _) ?_);rintro e w1 ⟨rfl,rfl⟩))
        go_region;go_wp2_with fail
        rw [a0q];go_wp2_with fail
        go_meet;exact ⟨congrArg (a07 .i64) (by have h1:=J.out;rw [w64 (-(A:Int)) (by omega) (by omega),w64 (-(B:Int)) (by omega) (by omega),w64 ((s.length:Int)+ -(A:Int)) (by omega) (by omega),w64 _ (by omega) (by omega)];omega),by rw [b.out],2,rfl⟩
  · have hd:decide ((16:Int)<=s.length)=false:=decide_eq_false hL;have bb:=pZ;have bc:=mS;go_wp2_with fail
    go_loopw [5,6,10,11] (λn y i _b wr=>wr=w/\∃k:Nat,k<=s.length/\i= .int .i64 k/\n= .int .i64 ((s.length - cntL (s.take k):Nat):Int)/\y= .bool (decide (cntL (s.take k)≠0))) (λ_ _ i _ _=>s.length - (intOf i).toNat)
    case atStart=>exact ⟨rfl,0,a0y _,rfl,by simp [cntL],by simp [cntL]⟩
    case round=>
     obtain ⟨rfl,k,hk,rfl,rfl,rfl⟩:=hrel;by_cases hlt:k<s.length
     · have b8:(k:Int)<s.length:=by omega
       obtain ⟨x,G⟩:∃x,s[k]=x:=⟨_,rfl⟩;have f:=xS hlt;rw [G] at f;have a7:cntL (s.take k)<=k:=by have:=gk (s.take k);rw [a0k] at this;omega
       obtain ⟨p,F⟩:∃p,cntL (s.take k)=p:=⟨_,rfl⟩;rw [F] at f a7 ⊢;have bk:=mA x;have bs:=wi x;obtain ⟨P,o⟩:∃P,s.length - p=P:=⟨_,rfl⟩;obtain ⟨z,t⟩:∃z,decide (p≠0)=z:=⟨_,rfl⟩;have HP:=a0a o;have HZ:=a0a t;rw [o,t];cases hsx:eJ x
       · have a5:=(D wr (a0g _ wr)).no x hsx;rw [hsx] at f;have b:Hid (cntL (s.take (k+1))=p):=f;clear f F hsx o t;go_wp2_with fail
         go_roundw
         case rel=>exact ⟨trivial,k+1,by omega,by go_num,by rw [b.out,HP.out],by rw [b.out,HZ.out]⟩
         case measure=>simp [intOf];omega
       · obtain ⟨q,kq,a5⟩:=(D wr (a0g _ wr)).sep x hsx;rw [hsx] at f;have b:Hid (cntL (s.take (k+1))=p+1):=f;have hw:IntKind.i64.wrap ((P:Int)+ -1)=((P - 1:Nat):Int):=(a0F _ (by omega)).trans (by omega);clear f F hsx o t;go_wp2_with fail
         go_roundw
         case rel=>exact ⟨trivial,k+1,by omega,by go_num,by rw [b.out, <- HP.out,Nat.sub_sub],by rw [b.out];rfl⟩
         case measure=>simp [intOf];omega
     · have av:s.take k=s:=a0v (by omega);rw [av];have b:Hid (s.length - cntL s=N/\decide (cntL s≠0)=m):=⟨by have:=ac.out;omega,V.out⟩;obtain ⟨p,F⟩:∃p,cntL s=p:=⟨_,rfl⟩;rw [F] at b ⊢;obtain ⟨P,o⟩:∃P,s.length - p=P:=⟨_,rfl⟩;obtain ⟨z,t⟩:∃z,decide (p≠0)=z:=⟨_,rfl⟩;rw [o,t] at b ⊢;clear F o t av;go_wp2_with fail
       go_meet;exact ⟨by rw [b.out.1],by rw [b.out.2],0,rfl⟩
 case rest=>
  obtain ⟨rfl,rfl,nq,rfl⟩:=hcut;have a4:a0e w.heap.size w (w.drewN nq):=bl.below (w:=w) (w':=w.drewN nq) ⟨nq, #[],by rw [Sort.grow_empty]⟩;obtain ⟨d,al⟩:∃d,w.drewN nq=d:=⟨_,rfl⟩;rw [al] at a4 ⊢;have M:=a0a a4;clear a4 al b2 t0 t1;cases m
  · have b0:Hid (K=s):=by unfold Hid;rw [<- l.out];exact xm (by have:=V.out;simpa using this)
    go_wp2_with fail
    go_ret;exact ⟨(by rw [b0.out];rfl),M.out⟩
  · have b9:=yM N b6 d;have c2:(0:Int)<=N:=by omega
    obtain ⟨w1,R⟩:∃w1,d.alloc (.cells (byteRow (a0A N 0)) 5)=w1:=⟨_,rfl⟩;have ao:a0e w.heap.size w w1:=by rw [<- R];exact M.out.alloc M.out.size _
    have ad:w1.heap[d.heap.size]? =some (.cells (byteRow (a0A N 0)) 5 (0,0)):=by rw [<- R];exact a0h d _
    rw [R] at b9;have U:=a0a ao;have ay:=a0a ad;clear ao ad R;go_wp2_with fail
    go_loopw [13,14,15] (λj i _b wr=>∃k:Nat,k<=s.length/\i= .int .i64 k/\j= .int .i64 (keepL (s.take k)).length/\Hid (a0e w.heap.size w wr)/\Hid (wr.heap[d.heap.size]? =some (.cells (byteRow (io s k)) 5 (0,0)))) (λ_ i _ _=>s.length - (intOf i).toNat)
    case atStart=>exact ⟨0,a0y _,rfl,by simp [keepL],U,by unfold Hid;rw [vL,l.out,E.out];exact ay.out⟩
    case round=>
     obtain ⟨k,hk,rfl,rfl,C,v⟩:=hrel;by_cases hlt:k<s.length
     · have b8:(k:Int)<s.length:=by omega
       have a8:(keepL (s.take k)).length<=N:=by rw [<- E.out, <- l.out];exact oC s k
       obtain ⟨x,G⟩:∃x,s[k]=x:=⟨_,rfl⟩;have bk:=mA x;have bs:=wi x;have bb:=pZ;have bc:=mS;cases hsx:eJ x
       · have a5:=(D wr C.out).no x hsx;obtain ⟨H,u,T⟩:=xZ hlt (by rw [G];exact hsx);rw [l.out,E.out] at T;obtain ⟨j,r⟩:∃j,(keepL (s.take k)).length=j:=⟨_,rfl⟩;rw [r] at H u T a8 ⊢;have a7:wr.cell? ⟨d.heap.size,j,none⟩=some ((byteRow (io s k))[j]'(by rw [iU,rm,l.out,E.out];exact T)):=(aa v.out j).trans (Array.getElem?_eq_getElem _);have bw:=ab v.out j;have a3:=an v.out j (.int .u8 x.toNat);rw [rj, <- G, <- H,G] at a3;have b1:=a0a a3;have O:=a0a u;have aC:Hid (w.heap.size<=d.heap.size):=M.size;generalize ((byteRow (io s k))[j]'(by rw [iU,rm,l.out,E.out];exact T))=old at a7;have c3:(j:Int)<N:=by omega
         clear H u r hsx a3;go_wp2_with fail
         go_roundw
         case rel=>exact ⟨k+1,by omega,by go_num,by rw [O.out];go_num,C.out.setCell aC.out _,b1⟩
         case measure=>simp [intOf];omega
       · obtain ⟨q,kq,a5⟩:=(D wr C.out).sep x hsx;obtain ⟨H,u⟩:=vM hlt (by rw [G];exact hsx);obtain ⟨j,r⟩:∃j,(keepL (s.take k)).length=j:=⟨_,rfl⟩;rw [r] at u a8 ⊢;have a9:=a0a H;have O:=a0a u;have bv:=λa n c=>vA a n c q kq wr.drew;clear H u r hsx;have bB:(0:Int)<=j:=by omega
         rcases Nat.lt_or_eq_of_le a8 with bO|rfl
         · have bY:(j:Int)<N:=by omega
           have c0:¬(N=j):=by omega
           have c1:¬(j=N):=by omega
           go_wp2_with fail
           go_region;go_wp2_with fail
           go_roundw
           case rel=>exact ⟨k+1,by omega,by go_num,by rw [O.out],C.out.drew,by unfold Hid;rw [a9.out];exact v.out⟩
           case measure=>simp [intOf];omega
         · go_wp2_with fail
           go_region;go_wp2_with fail
           go_roundw
           case rel=>exact ⟨k+1,by omega,by go_num,by rw [O.out],C.out.drew,by unfold Hid;rw [a9.out];exact v.out⟩
           case measure=>simp [intOf];omega
     · have au:k=s.length:=by omega
       have aT:Hid (wr.heap[d.heap.size]? =some (.cells (byteRow K) 5 (0,0))):=by have:=v.out;rw [au,x8,l.out] at this;exact this
       have b7:=run_convert_bytes_back (P:=a0b) wr 76 9 5 ⟨d.heap.size,0,none⟩ N K Tryz.underlying76 Tryz.underlying5 Tryz.underlying9 (λj r=>by
        have e:(⟨d.heap.size,0,none⟩:Addr).add j=⟨d.heap.size,j,none⟩:=by simp only [Addr.add];split<;>simp_all
        rw [e,aa aT.out j];unfold byteRow;simp [r])
       rw [E.out] at b7;clear au;go_wp2_with fail
       go_ret;exact ⟨rfl,C.out⟩
end
section
open Go.RowKit Go.Maps Go.Shelf
theorem sn (p:Option Addr) (W:a0j):(method 567 404 (.pointer p) "Replace").run a0b W= .ok (394, .pointer p) W:=by kernel_rfl
theorem pU (R on t:Nat) (i:Array a0u) (s:Bs) (w:a0j) (d:w.heap[R]? =some (.cells #[.int .u32 0, .int .i32 0, .int .u32 0, .nilIface, .slice (some ⟨on,0,none⟩) 4 t] 355 (0,0))) (h:w.heap[on]? =some (.cells (onC i) 9 (0,0))) (H:s.length<=1000000000):
 a0p a0b 238 #[.pointer (some ⟨R,0,none⟩),S s] w λe w'=>e= .returned (S (keepL s))/\ag (λq=>q=R) w (λq=>q=R) w':=by
 have B:=ae d;have E:R≠on:=dj d h (by decide);have v:=a0a (Ax R _ _ _ _ (wW R on t w.heap.size i B) w (λw' m=>⟨m.size,(m.block on E.symm).trans h⟩) d);clear d h;go_enter Tryz.func238,Tryz.ntmps238;go_upto_region 2 with (go_at_call 288;refine a0c v.out ?_;rintro e b ⟨rfl,G⟩)
 obtain ⟨M,N,n,⟨r,o⟩,f,k⟩:=G;have l:ag (λq=>q=R) w (λq=>q=R) b:=((ag.of_only (F:=λq=>q=R) n rfl).trans r).trans (ag.of_only (F:=λq=>q=R) f rfl);have p:lK w.heap.size b (w.heap.size+1):=by obtain ⟨a,c,y,I,z,J,A,j⟩:=o;exact ⟨a,c,y,I,z,J,(f.block _ (by omega)).trans A,ah j (λg D=>f.block g (λe=>by have:=(j.lt g D).1;omega))⟩
 have K:b.cell? ⟨R,3,none⟩=some (.iface 404 (.pointer (some ⟨w.heap.size+1,0,none⟩))):=(aa k 3).trans rfl;have x:=a0a l;have u:=a0a (pT w.heap.size (w.heap.size+1) s b p H);have L:=sn (some ⟨w.heap.size+1,0,none⟩) b;clear n r o f k l p;go_wp2_with (go_at_call 394;refine a0c u.out ?_;rintro e O ⟨rfl,C⟩)
 go_ret;exact ⟨rfl,x.trans (ag.of_below C)⟩
end
section
open Go.RowKit Go.Maps Go.Shelf
theorem fe {lo a:Nat} {w w':a0j} {v:a0u} {b:List af} (h:ai lo a w v b) (e:a<=w.heap.size) (c:a0e w.heap.size w w'):ai lo a w' v b:=h.kept λk _ d=>c.block k (by omega)
theorem nK {lo a:Nat} {w w':a0j} {v:a0u} {b:List ci} (h:az lo a w v b) (e:a<=w.heap.size) (c:a0e w.heap.size w w'):az lo a w' v b:=h.kept λk _ d=>c.block k (by omega)
def zeroF:af:=⟨[],[],[],[]⟩
def lM (a:Nat) (w':a0j) (f:Option af) (v:a0u):Prop:=∃d,v= .agg #[S (f.getD zeroF).tag,S (f.getD zeroF).ind,S (f.getD zeroF).data,d]/\az 0 a w' d (f.getD zeroF).subs
theorem lM.up {w w':a0j} {f:Option af} {v:a0u} (h:lM w.heap.size w f v) (e:a0e w.heap.size w w'):lM w.heap.size w' f v:=by
 obtain ⟨d,a,b⟩:=h;exact ⟨d,a,b.kept λk _ c=>e.block k c⟩
theorem kE {f:af} (h:(fieldBytes f).length<=1000000) {q:ci} (a:q∈f.subs):q.text.length<=1000000:=by
 have:∀l:List ci,q∈l->q.text.length<=(l.flatMap aQ).length:=by
  intro l;induction l with
  |nil=>intro h;cases h
  |cons s l ih=>
   intro h;rw [List.flatMap_cons,a0f];rcases List.mem_cons.1 h with rfl|h
   · simp only [aQ,a0i];omega
   · have:=ih h;omega
 have:=this _ a;simp only [fieldBytes,a0f] at h;omega
theorem JNB {w a b:a0j} (c:a0e a.heap.size a b) (d:a.heap.size=w.heap.size+3):a0e w.heap.size a b:=c.mono (by omega)
theorem qU (a:Bs) (c:UInt8):a.contains c=decide (0<=a04 a c):=Lib.contains_iff_indexByte a c
theorem eR {fn:Func} {p u:Tmp} {c:TypeId} (h:fn.results= #[.tmp u, .cell p c]) (b:Array a0u) (P:Program) (w:a0j):
 (results fn b).run P w=
  ((asAddr (b.getD p undef)).run P w).andThen λa d=>((loadVar c a).run P d).andThen λv e=> .ok (.tuple #[b.getD u undef,v]) e:=by
 simp only [results,h];simp [Sem.run_bind,Result.andThen]
theorem pu (k l:UInt8) (x:a0u) (c:List af) (y f:Bs) (w:a0j) (hs:ai 0 w.heap.size w x c) (a7:bL c):
 a0p a0b 184 #[.agg #[.int .u8 k.toNat, .int .u8 l.toNat,x],S y,S f] w λe w'=>(∃v,e= .returned (.tuple #[S (textF (firstF c y) f),v])/\lM w.heap.size w' (firstF c y) v)/\a0e w.heap.size w w':=by
 obtain ⟨m,G⟩:∃m,((w.alloc (.cells #[.int .u8 k.toNat, .int .u8 l.toNat,x] 62)).alloc (.cells #[S y] 9)).alloc (.cells #[S [],S [],S [], .slice none 0 0] 123)=m:=⟨_,rfl⟩;have bk:m.heap.size=w.heap.size+3:=by rw [<- G];simp
 have P:a0e w.heap.size w m:=by rw [<- G];exact (((a0g _ w).alloc (a0d _) _).alloc (by simp) _).alloc (by simp;omega) _
 have ao:ai 0 m.heap.size m x c:=(fe hs (a0d _) P).mono (a0d _) (by omega);have hA:m.heap[w.heap.size]? =some (.cells #[.int .u8 k.toNat, .int .u8 l.toNat,x] 62 (0,0)):=by rw [<- G,a0n _ _ _ (by simp;omega),a0n _ _ _ (by simp)];exact a0h w _
 have hB:m.heap[w.heap.size+1]? =some (.cells #[S y] 9 (0,0)):=by rw [<- G,a0n _ _ _ (by simp)];have:=a0h (w.alloc (.cells #[.int .u8 k.toNat, .int .u8 l.toNat,x] 62)) (.cells #[S y] 9);rwa [a0r] at this
 have hC:m.heap[w.heap.size+1+1]? =some (.cells #[S [],S [],S [], .slice none 0 0] 123 (0,0)):=by rw [<- G];have:=a0h ((w.alloc (.cells #[.int .u8 k.toNat, .int .u8 l.toNat,x] 62)).alloc (.cells #[S y] 9)) (.cells #[S [],S [],S [], .slice none 0 0] 123);rwa [a0r,a0r] at this
 have X:=a0a (mh (w.heap.size+1) y x c m ao a7.1 (by rw [aa hB];rfl));have a2:m.cell? ⟨w.heap.size,2,none⟩=some x:=by rw [aa hA];rfl
 have bb:=hs;have HF:=a0a hs;have HA:=a0a hA;have HC:=a0a hC;have M:=a0a P;have HW:=a0a G;clear hA hB hC ao hs P;rcases qC y c with ⟨n,V,hn,U⟩|⟨V,U⟩
 · rw [V,show ixI (some n)=n from rfl] at X;rw [U];obtain ⟨b,g,Z,d,hv,_,Q,c0,c1,c2,c3,a1⟩:=bb.field n hn;subst hv;have a6:=a0O hn;have HG:Hid (lM w.heap.size w (some c[n]) (.agg #[S c[n].tag,S c[n].ind,S c[n].data,d])):=⟨d,rfl,a1⟩;have bc:c[n].subs.length<=1000000:=a0t (cF _) (a7.2 _ a6);have HJ:Hid ((dq (bD c[n].subs f)).length<=140737488355328):=by have h1:=kA c[n].subs f 1000000 (λq hq=>kE (a7.2 _ a6) hq);have:c[n].subs.length * (1000000+1)<=1000000 * 1000001:=a0Z bc (a0d _);unfold Hid;omega
   obtain ⟨A,B,rfl,_⟩:=id a1;have b3:=a0a a1;have b5:Hid (textF (some c[n]) f=textS c[n].subs f):=rfl;generalize c[n].subs=ss at *;generalize textF (some c[n]) f=RES at *;generalize c[n].tag=T at *;generalize c[n].ind=I at *;generalize c[n].data=D at *;generalize c[n]=FF at *;have bA:(n:Int)<(c.length:Int):=by omega
   clear V U a6 a1;obtain ⟨i0,hi,ay,aC,a8⟩:=a1i i9;have HI:=a0a hi;have aT:=a0a ay;have b0:=a0a aC;have b1:=a0a a8;clear hi ay aC a8;have bv:=HA.out;go_enter Tryz.func184,Tryz.ntmps184;go_wp2_with (go_at_call 241;((with_reducible refine a0c X.out ?_);rintro e i ⟨rfl,u⟩;have a3:i.cell? ⟨w.heap.size,2,none⟩=some (.slice (some ⟨b,g,none⟩) c.length Z):=(((aE u).1 w.heap.size 2 (by omega)).trans a2);have d3:i.cell? ⟨b,g+n * 4+3,none⟩=some (.slice A ss.length B):=((aE u).1 b _ (by omega)).trans (((aE M.out).1 b _ Q).trans c3)))
   have b4:Hid (az 0 w.heap.size i (a08 A ss.length B) ss):=nK (nK b3.out (a0d _) M.out) (by omega) u;have a8:=u.size;have b2:=a0a u;clear d3;go_loopw [9,26] (λv j wr=>∃(q:Nat),q<=ss.length/\j= .int .i64 q/\Hid (wr.ownsRow (w.heap.size+3) 9 1 v (bD (ss.take q) f).length ((bD (ss.take q) f).map λs=>S s))/\a0e (w.heap.size+3) i wr/\w.heap.size+3<=wr.heap.size) (λ_ j _=>ss.length - (intOf j).toNat)
   case atStart=>exact ⟨0,a0y _,rfl,a1d _ _ _ _,a0g _ _,by omega⟩
   case round=>
    obtain ⟨q,hq,rfl,N,H,hz⟩:=hrel;by_cases hlt:q<ss.length
    · have ax:az 0 w.heap.size wr (a08 A ss.length B) ss:=b4.out.kept (bd H (by omega));obtain ⟨b',bB,bt,hv,_,bw,e0,e1⟩:=ax.sub q hlt;cases hv;have Y:=a0a (kw ss f q hlt);have b6:(bD (ss.take q) f).length<=1000000:=by have:=gC (ss.take q) f;rw [a0k] at this;omega
      have ac:Hid (∀W,a0p a0b 246 #[S f, .int .u8 ss[q].code.toNat] W λe w'=>e= .returned (.int .i64 (a04 f ss[q].code))/\W=w'):=λW=>(strings_IndexByte ⟨f.toArray⟩ ss[q].code.toNat W).mono λe w' h=>⟨by rw [h.1];simp,h.2.symm⟩;have J:=qU f ss[q].code;clear ax;generalize ss[q].code=C at *;generalize ss[q].text=TT at *;generalize a04 f C=ixc at *;generalize f.contains C=cc at *;generalize bD (ss.take q) f=L at *;have R:b'<wr.heap.size:=by omega
      cases cc
      · rw [if_neg (by simp),a0T] at Y;have b9:¬(0<=ixc):=λh=>by rw [decide_eq_true h] at J;cases J
        clear J;go_wp2_with (go_at_call 246;((with_reducible refine a0c (ac.out _) ?_);rintro e w3 ⟨rfl,rfl⟩))
        go_roundw
        case rel=>exact ⟨q+1,by omega,by go_num,by unfold Hid;rw [Y.out];exact N.out.alloc _,H.alloc (by omega) _,by simp;omega⟩
        case measure=>simp [intOf];omega
      · rw [if_pos rfl] at Y;have b9:0<=ixc:=by
         by_cases h:0<=ixc
         · exact h
         · rw [decide_eq_false h] at J;cases J
        clear J
        go_wp2_with (first
         |(go_at_call 246;((with_reducible refine a0c (ac.out _) ?_);rintro e w3 ⟨rfl,rfl⟩))
         |(at_builtin;(refine a0V _ rfl _ _ 81 rfl (w.heap.size+3) 9 i0 (.string ⟨#[]⟩) 1 16 Tryz.underlying81 HI.out aT.out b0.out b1.out rfl a02 u9 L.length (L.map λs=>S s) ?_ ?_ ⟨wr.heap.size+1,0,none⟩ 1 1 [S TT] ?_ ?_ ?_ ?_ ?_ ?_ ?_ ?_);(focus rfl);(focus exact ((N.out.alloc _).alloc _));(focus rfl);(focus rfl);(focus exact gR _ _ _ _);(focus simp [a0N]);(focus (unfold maxLen;omega));(focus omega);(focus (simp;omega));intro v' w1 av a5 _ _;have P:a0e (w.heap.size+3) i w1:=((H.alloc (by omega) _).alloc (by simp;omega) _).grown a5 (by simp;omega) (λj ej=>(N.out.lt j ej).1);have aS:=a5.size;have HO:=a0a av;clear av a5))
        go_roundw
        case rel=>exact ⟨q+1,by omega,by go_num,by unfold Hid;rw [Y.out,a0f,a0C];exact HO.out,P,by simp at aS;omega⟩
        case measure=>simp [intOf];omega
    · have HT:Hid (bD (ss.take q) f=bD ss f):=by unfold Hid;rw [a0v (by omega)]
      rw [HT.out] at N;have b6:=gC ss f;have HF:=a0a (kW (w:=wr.drew) (kK N.out) (by omega) HJ.out);have aS:=hz;have r:a0e w.heap.size w wr:=M.out.trans ((JNB b2.out bk).trans (H.mono (by omega)));have a9:=a0a r;have a4:∀W,a0e wr.heap.size wr W->(W.cell? ⟨w.heap.size,2,none⟩=some (.slice (some ⟨b,g,none⟩) c.length Z)/\W.cell? ⟨b,g+n * 4,none⟩=some (S T)/\W.cell? ⟨b,g+n * 4+1,none⟩=some (S I)/\W.cell? ⟨b,g+n * 4+2,none⟩=some (S D)/\W.cell? ⟨b,g+n * 4+3,none⟩=some (.slice A ss.length B)):=λW O=>by
       have R:b<wr.heap.size:=by omega
       have e2:wr.cell? ⟨w.heap.size,2,none⟩=some (.slice (some ⟨b,g,none⟩) c.length Z):=by rw [World.cell?_of_block (w:=i) (a:=⟨w.heap.size,2,none⟩) (H.block _ (by show w.heap.size<_;omega))];exact a3
       refine ⟨((aE O).1 _ _ (by omega)).trans e2,?_,?_,?_,?_⟩
       · exact ((aE O).1 _ _ R).trans (((aE r).1 _ _ Q).trans c0)
       · exact ((aE O).1 _ _ R).trans (((aE r).1 _ _ Q).trans c1)
       · exact ((aE O).1 _ _ R).trans (((aE r).1 _ _ Q).trans c2)
       · exact ((aE O).1 _ _ R).trans (((aE r).1 _ _ Q).trans c3)
      have F:=a4 wr.drew ((a0g _ wr).drew);have al:=a0a a4;clear a4 r;go_wp2_with fail
      refine wT (λW=>(W.cell? ⟨w.heap.size,2,none⟩=some (.slice (some ⟨b,g,none⟩) c.length Z)/\W.cell? ⟨b,g+n * 4,none⟩=some (S T)/\W.cell? ⟨b,g+n * 4+1,none⟩=some (S I)/\W.cell? ⟨b,g+n * 4+2,none⟩=some (S D)/\W.cell? ⟨b,g+n * 4+3,none⟩=some (.slice A ss.length B))) 8 ?_;refine tk 0 ?_ rfl F ?_ ?_;rotate_left;intro w' h;go_simp;rfl;refine tk 2 ?_ rfl F ?_ ?_;rotate_left;intro w' h;go_simp;rfl;refine tk 3 ?_ rfl F ?_ ?_;rotate_left;rintro w' ⟨h0,h1,h2,h3,h4⟩;go_simp;rfl;refine tk 4 ?_ rfl F ?_ ?_;rotate_left;intro w' h;go_simp;rfl;refine tk 5 ?_ rfl F ?_ ?_;rotate_left;intro w' h;go_simp;rfl;refine tk 6 ?_ rfl F ?_ ?_;rotate_left;rintro w' ⟨h0,h1,h2,h3,h4⟩;go_simp;rfl;refine dO 1 rfl λK z=>?_;go_simp;go_at_call 244;refine HF.mono ?_;rintro e E ⟨rfl,b8⟩;have a0:a0e wr.heap.size wr E:=(a0g _ wr).drew.trans b8;refine z _ _ (λ_=>al _ a0) ?_;clear z K;have t:E.heap[w.heap.size+1+1]? =some (.cells #[S [],S [],S [], .slice none 0 0] 123 (0,0)):=(a0.block _ (by omega)).trans ((H.block _ (by omega)).trans ((u.block _ (by omega)).trans HC.out));have z0:=ab t 0;have z1:=ab t 1;have z2:=ab t 2;have z3:=ab t 3;have y0:E.cell? ⟨w.heap.size+1+1,0,none⟩=some (S []):=(by rw [aa t];rfl);have y1:E.cell? ⟨w.heap.size+1+1,1,none⟩=some (S []):=(by rw [aa t];rfl);have y2:E.cell? ⟨w.heap.size+1+1,2,none⟩=some (S []):=(by rw [aa t];rfl);have y3:E.cell? ⟨w.heap.size+1+1,3,none⟩=some (.slice none 0 0):=(by rw [aa t];rfl);have b7:=al _ a0;clear t;refine dO 7 rfl λK z=>?_;go_simp;refine z _ _ (λ_=>b7) ?_;clear z K;refine dO 8 rfl λK z=>?_;go_simp;refine z _ _ (λh=>absurd rfl h) ?_;clear z K;refine dN ?_;go_wp2;refine a0Q (v:= .tuple #[S (dq (bD ss f)), .agg #[S T,S I,S D, .slice A ss.length B]]) (by rw [eR rfl];go_simp) rfl ?_;have r:a0e w.heap.size w E:=a9.trans (a0.mono a9.size);have au:=(((r.setCell (p:=⟨w.heap.size+1+1,0,none⟩) (by simp;omega) (S T)).setCell (p:=⟨w.heap.size+1+1,1,none⟩) (by simp;omega) (S I)).setCell (p:=⟨w.heap.size+1+1,2,none⟩) (by simp;omega) (S D)).setCell (p:=⟨w.heap.size+1+1,3,none⟩) (by simp;omega) (.slice A ss.length B);exact ⟨⟨_,by rw [b5.out];rfl,lM.up HG.out au⟩,au⟩
 · rw [V,show ixI none= -1 from rfl] at X;rw [U];clear V U;go_enter Tryz.func184,Tryz.ntmps184;go_wp2_with (go_at_call 241;((with_reducible refine a0c X.out ?_);rintro e i ⟨rfl,u⟩;have o:i.heap[w.heap.size+1+1]? =some (.cells #[S [],S [],S [], .slice none 0 0] 123 (0,0)):=(u.block _ (by omega)).trans HC.out;have z0:=ab o 0;have z1:=ab o 1;have z2:=ab o 2;have z3:=ab o 3;have y0:i.cell? ⟨w.heap.size+1+1,0,none⟩=some (S []):=(by rw [aa o];rfl);have y1:i.cell? ⟨w.heap.size+1+1,1,none⟩=some (S []):=(by rw [aa o];rfl);have y2:i.cell? ⟨w.heap.size+1+1,2,none⟩=some (S []):=(by rw [aa o];rfl);have y3:i.cell? ⟨w.heap.size+1+1,3,none⟩=some (.slice none 0 0):=(by rw [aa o];rfl);have bs:=a0a o;clear o))
   refine a0Q (v:= .tuple #[S [], .agg #[S [],S [],S [], .slice none 0 0]]) (by rw [eR rfl];go_simp) rfl ?_;have r:a0e w.heap.size w i:=M.trans (u.mono M.size);exact ⟨⟨_,rfl, .slice none 0 0,rfl,_,_,rfl,λh=>absurd rfl h⟩,(((r.setCell (p:=⟨w.heap.size+1+1,0,none⟩) (by simp;omega) _).setCell (p:=⟨w.heap.size+1+1,1,none⟩) (by simp;omega) _).setCell (p:=⟨w.heap.size+1+1,2,none⟩) (by simp;omega) _).setCell (p:=⟨w.heap.size+1+1,3,none⟩) (by simp;omega) _⟩
end
section
open Go.RowKit Go.Maps Go.Shelf
def skI (a:Bs):Nat:=match a with
 |_::c::_=>if digitB c then c.toNat - 48 else 0
 |_=>0
theorem tG (a c:UInt8) (r:Bs):skI (a::c::r)=if digitB c then c.toNat - 48 else 0:=rfl
theorem wy (f:Option af):wA f=skI (f.getD zeroF).ind:=by
 cases f with
 |none=>rfl
 |some f=> obtain ⟨t,i,d,s⟩:=f;rcases i with _|⟨a,_|⟨c,r⟩⟩<;>rfl
theorem mF (f:af) (a:Bs):(textS f.subs a).length<=(fieldBytes f).length:=by
 have c:(textS f.subs a).length<=((bD f.subs a).map λs=>s.length+1).sum:=gJ _;have b:∀l:List ci,((bD l a).map λs=>s.length+1).sum<=(l.flatMap aQ).length:=by
  intro l;induction l with
  |nil=>simp [bD]
  |cons s l ih=>
   rw [List.flatMap_cons,a0f];unfold bD at *;rw [a0w];have e:(aQ s).length=s.text.length+2:=by simp [aQ]
   split
   · simp only [a0E,a0K];omega
   · omega
 have d:=b f.subs;simp only [fieldBytes,a0f] at *;omega
theorem gL {a:List af} {b:Bs} {f:af} (h:firstF a b=some f):f∈a:=List.mem_of_find?_eq_some h
theorem eo {a:List af} (d:bL a) (c b:Bs):(textF (firstF a c) b).length<=1000000:=by
 cases h:firstF a c with
 |none=>simp [textF]
 |some f=>exact a0t (mF f b) (d.2 f (gL h))
theorem mD (k l:UInt8) (x:a0u) (b:List af) (w:a0j) (K:ai 0 w.heap.size w x b) (H:bL b):
 a0p a0b 178 #[.agg #[.int .u8 k.toNat, .int .u8 l.toNat,x]] w λe w'=>e= .returned (S (aO b))/\a0e w.heap.size w w':=by
 have U:(w.alloc (.cells #[.int .u8 k.toNat, .int .u8 l.toNat,x] 62)).heap.size=w.heap.size+1:=by simp
 have E:a0e w.heap.size w (w.alloc (.cells #[.int .u8 k.toNat, .int .u8 l.toNat,x] 62)):=(a0g _ w).alloc (a0d _) _;have o:=a0a (pu k l x b [50,52,53] [97,98] (w.alloc (.cells #[.int .u8 k.toNat, .int .u8 l.toNat,x] 62)) ((fe K (a0d _) E).mono (a0d _) (by omega)) H);have L:=a0a (eo H [50,52,53] [97,98]);have h:Hid (aO b=fL (textF (firstF b [50,52,53]) [97,98]) (skI ((firstF b [50,52,53]).getD zeroF).ind)):=by unfold Hid aO;rw [wy];rfl
 have t:=a0a E;clear K H E;generalize textF (firstF b [50,52,53]) [97,98]=T at *;unfold lM at o;generalize (firstF b [50,52,53]).getD zeroF=g at *;obtain ⟨D,B,A,C⟩:=g;change Hid (aO b=fL T (skI B)) at h;change Hid (a0p a0b 184 _ _ λe w'=>(∃v,e= .returned (.tuple #[S T,v])/\∃d,v= .agg #[S D,S B,S A,d]/\az 0 _ w' d C)/\a0e _ _ w') at o;have y:Hid (∀(q:Nat) (W:a0j),q<=1000->a0p a0b 231 #[S T, .int .i64 q] W λe w'=>e= .returned (S (fL T q))/\a0e W.heap.size W w'):=λq W M=>wv T q L.out M W;rcases B with _|⟨a,_|⟨c,r⟩⟩
 · change Hid (aO b=fL T 0) at h;go_enter Tryz.func178,Tryz.ntmps178
   go_wp2_with (first
    |(go_at_call 184;((with_reducible refine a0c o.out ?_);rintro e i ⟨⟨v,rfl,_,rfl,p,s,rfl,_⟩,j⟩))
    |(go_at_call 231;((with_reducible refine a0c (y.out 0 _ (by omega)) ?_);rintro e I ⟨rfl,m⟩)))
   go_ret;have f:a0e w.heap.size w i:=t.out.trans (j.mono (by simp));exact ⟨by rw [h.out];rfl,(f.alloc f.size _).trans (m.mono (by have:=f.size;simp;omega))⟩
 · change Hid (aO b=fL T 0) at h;go_enter Tryz.func178,Tryz.ntmps178
   go_wp2_with (first
    |(go_at_call 184;((with_reducible refine a0c o.out ?_);rintro e i ⟨⟨v,rfl,_,rfl,p,s,rfl,_⟩,j⟩))
    |(go_at_call 231;((with_reducible refine a0c (y.out 0 _ (by omega)) ?_);rintro e I ⟨rfl,m⟩)))
   go_ret;have f:a0e w.heap.size w i:=t.out.trans (j.mono (by simp));exact ⟨by rw [h.out];rfl,(f.alloc f.size _).trans (m.mono (by have:=f.size;simp;omega))⟩
 · have u:Hid (∀W,a0p a0b 230 #[S [c]] W λe w'=>e= .returned (.bool (digitB c))/\a0e W.heap.size W w'):=λW=>by have:=dC [c] W (by simp);rwa [show [c].all digitB=digitB c by simp] at this
   have R:(1:Int)<((a::c::r).length:Int):=by simp;omega
   by_cases hd:digitB c=true
   · have z:Hid (aO b=fL T (c.toNat - 48)):=by unfold Hid;rw [h.out];rw [tG,if_pos hd]
     rw [hd] at u;obtain ⟨N,O⟩:=dJ hd;have P:((c.toNat:Int) - 48)=((c.toNat - 48:Nat):Int):=by omega
     have Q:c.toNat - 48<=9:=by omega
     clear h hd;generalize c.toNat - 48=q at *;go_enter Tryz.func178,Tryz.ntmps178
     go_wp2_with (first
      |(go_at_call 184;((with_reducible refine a0c o.out ?_);rintro e i ⟨⟨v,rfl,_,rfl,p,s,rfl,_⟩,j⟩))
      |(go_at_call 230;((with_reducible refine a0c (u.out _) ?_);rintro e J ⟨rfl,n⟩;have c1:J.cell? ⟨i.heap.size,1,none⟩=some (S (a::c::r)):=((aE n).1 _ _ (by simp)).trans (by rw [a06];rfl)))
      |(go_at_call 231;((with_reducible refine a0c (y.out q _ (by omega)) ?_);rintro e I ⟨rfl,m⟩)))
     go_ret;have f:a0e w.heap.size w i:=t.out.trans (j.mono (by simp));have G:=f.size;have F:=f.alloc G (.cells #[S D,S (a::c::r),S A, .slice p C.length s] 123);exact ⟨by rw [z.out];rfl,(F.trans (n.mono (by simp;omega))).trans (m.mono (by have:=n.size;simp at this;omega))⟩
   · have z:Hid (aO b=fL T 0):=by unfold Hid;rw [h.out];rw [tG,if_neg hd]
     rw [show digitB c=false by simpa using hd] at u;clear h hd;go_enter Tryz.func178,Tryz.ntmps178
     go_wp2_with (first
      |(go_at_call 184;((with_reducible refine a0c o.out ?_);rintro e i ⟨⟨v,rfl,_,rfl,p,s,rfl,_⟩,j⟩))
      |(go_at_call 230;((with_reducible refine a0c (u.out _) ?_);rintro e J ⟨rfl,n⟩;have c1:J.cell? ⟨i.heap.size,1,none⟩=some (S (a::c::r)):=((aE n).1 _ _ (by simp)).trans (by rw [a06];rfl)))
      |(go_at_call 231;((with_reducible refine a0c (y.out 0 _ (by omega)) ?_);rintro e I ⟨rfl,m⟩)))
     go_ret;have f:a0e w.heap.size w i:=t.out.trans (j.mono (by simp));have G:=f.size;have F:=f.alloc G (.cells #[S D,S (a::c::r),S A, .slice p C.length s] 123);exact ⟨by rw [z.out];rfl,(F.trans (n.mono (by simp;omega))).trans (m.mono (by have:=n.size;simp at this;omega))⟩
end
section
open Go.RowKit Go.Maps Go.Shelf
theorem bN {fn:Func} {p u:Tmp} {c:TypeId} (h:fn.results= #[.cell p c, .tmp u]) (b:Array a0u) (P:Program) (w:a0j):
 (results fn b).run P w=
  ((asAddr (b.getD p undef)).run P w).andThen λa d=>((loadVar c a).run P d).andThen λv e=> .ok (.tuple #[v,b.getD u undef]) e:=by
 simp only [results,h];simp [Sem.run_bind,Result.andThen]
theorem m9 (k l:UInt8) (x:a0u) (c:List af) (j:Bs) (w:a0j) (E:ai 0 w.heap.size w x c) (U:c.length<=1000000):
 a0p a0b 181 #[.agg #[.int .u8 k.toNat, .int .u8 l.toNat,x],S j] w λe w'=>(∃v,e= .returned (.tuple #[v, .bool (firstF c j).isSome])/\lM w.heap.size w' (firstF c j) v)/\a0e w.heap.size w w':=by
 obtain ⟨g,o⟩:∃g,((w.alloc (.cells #[.int .u8 k.toNat, .int .u8 l.toNat,x] 62)).alloc (.cells #[S j] 9)).alloc (.cells #[S [],S [],S [], .slice none 0 0] 123)=g:=⟨_,rfl⟩;have a1:g.heap.size=w.heap.size+3:=by rw [<- o];simp
 have B:a0e w.heap.size w g:=by rw [<- o];exact (((a0g _ w).alloc (a0d _) _).alloc (by simp) _).alloc (by simp;omega) _
 have K:ai 0 g.heap.size g x c:=(fe E (a0d _) B).mono (a0d _) (by omega);have A:g.heap[w.heap.size]? =some (.cells #[.int .u8 k.toNat, .int .u8 l.toNat,x] 62 (0,0)):=by rw [<- o,a0n _ _ _ (by simp;omega),a0n _ _ _ (by simp)];exact a0h w _
 have H:g.heap[w.heap.size+1]? =some (.cells #[S j] 9 (0,0)):=by rw [<- o,a0n _ _ _ (by simp)];have:=a0h (w.alloc (.cells #[.int .u8 k.toNat, .int .u8 l.toNat,x] 62)) (.cells #[S j] 9);rwa [a0r] at this
 have J:g.heap[w.heap.size+1+1]? =some (.cells #[S [],S [],S [], .slice none 0 0] 123 (0,0)):=by rw [<- o];have:=a0h ((w.alloc (.cells #[.int .u8 k.toNat, .int .u8 l.toNat,x] 62)).alloc (.cells #[S j] 9)) (.cells #[S [],S [],S [], .slice none 0 0] 123);rwa [a0r,a0r] at this
 have t:=a0a (mi (w.heap.size+1) j x c g K U (by rw [aa H];rfl));have N:g.cell? ⟨w.heap.size,2,none⟩=some x:=by rw [aa A];rfl
 have V:=E;have HA:=a0a A;have G:=a0a J;have m:=a0a B;clear A H J K E B;rcases qC j c with ⟨n,r,R,q⟩|⟨r,q⟩
 · rw [r,show ixI (some n)=n from rfl] at t;rw [q];obtain ⟨b,s,Q,d,W,_,u,O,c1,c2,P,F⟩:=V.field n R;subst W;have M:Hid (lM w.heap.size w (some c[n]) (.agg #[S c[n].tag,S c[n].ind,S c[n].data,d])):=⟨d,rfl,F⟩;obtain ⟨y,z,rfl,_⟩:=id F;generalize c[n].subs=ss at *;generalize c[n].tag=T at *;generalize c[n].ind=I at *;generalize c[n].data=D at *;generalize c[n]=FF at *;have a0:(n:Int)<(c.length:Int):=by omega
   clear r q F;go_enter Tryz.func181,Tryz.ntmps181;go_wp2_with (go_at_call 241;((with_reducible refine a0c t.out ?_);rintro e f ⟨rfl,i⟩;have a3:f.cell? ⟨w.heap.size,2,none⟩=some (.slice (some ⟨b,s,none⟩) c.length Q):=(((aE i).1 w.heap.size 2 (by omega)).trans N);have e0:f.cell? ⟨b,s+n * 4,none⟩=some (S T):=((aE i).1 b _ (by omega)).trans (((aE m.out).1 b _ u).trans O);have e1:f.cell? ⟨b,s+n * 4+1,none⟩=some (S I):=((aE i).1 b _ (by omega)).trans (((aE m.out).1 b _ u).trans c1);have e2:f.cell? ⟨b,s+n * 4+2,none⟩=some (S D):=((aE i).1 b _ (by omega)).trans (((aE m.out).1 b _ u).trans c2);have e3:f.cell? ⟨b,s+n * 4+3,none⟩=some (.slice y ss.length z):=((aE i).1 b _ (by omega)).trans (((aE m.out).1 b _ u).trans P);have a:f.heap[w.heap.size+1+1]? =some (.cells #[S [],S [],S [], .slice none 0 0] 123 (0,0)):=(i.block _ (by omega)).trans G.out;have z0:=ab a 0;have z1:=ab a 1;have z2:=ab a 2;have z3:=ab a 3;have X:f.cell? ⟨w.heap.size+1+1,0,none⟩=some (S []):=(by rw [aa a];rfl);have Y:f.cell? ⟨w.heap.size+1+1,1,none⟩=some (S []):=(by rw [aa a];rfl);have Z:f.cell? ⟨w.heap.size+1+1,2,none⟩=some (S []):=(by rw [aa a];rfl);have y3:f.cell? ⟨w.heap.size+1+1,3,none⟩=some (.slice none 0 0):=(by rw [aa a];rfl);clear a))
   refine a0Q (v:= .tuple #[.agg #[S T,S I,S D, .slice y ss.length z], .bool true]) (by rw [bN rfl];go_simp) rfl ?_;have C:a0e w.heap.size w f:=m.trans (i.mono m.size);have L:=(((C.setCell (p:=⟨w.heap.size+1+1,0,none⟩) (by simp;omega) (S T)).setCell (p:=⟨w.heap.size+1+1,1,none⟩) (by simp;omega) (S I)).setCell (p:=⟨w.heap.size+1+1,2,none⟩) (by simp;omega) (S D)).setCell (p:=⟨w.heap.size+1+1,3,none⟩) (by simp;omega) (.slice y ss.length z);exact ⟨⟨_,rfl,lM.up M.out L⟩,L⟩
 · rw [r,show ixI none= -1 from rfl] at t;rw [q];clear r q;go_enter Tryz.func181,Tryz.ntmps181;go_wp2_with (go_at_call 241;((with_reducible refine a0c t.out ?_);rintro e f ⟨rfl,i⟩;have a:f.heap[w.heap.size+1+1]? =some (.cells #[S [],S [],S [], .slice none 0 0] 123 (0,0)):=(i.block _ (by omega)).trans G.out;have z0:=ab a 0;have z1:=ab a 1;have z2:=ab a 2;have z3:=ab a 3;have X:f.cell? ⟨w.heap.size+1+1,0,none⟩=some (S []):=(by rw [aa a];rfl);have Y:f.cell? ⟨w.heap.size+1+1,1,none⟩=some (S []):=(by rw [aa a];rfl);have Z:f.cell? ⟨w.heap.size+1+1,2,none⟩=some (S []):=(by rw [aa a];rfl);have y3:f.cell? ⟨w.heap.size+1+1,3,none⟩=some (.slice none 0 0):=(by rw [aa a];rfl);clear a))
   refine a0Q (v:= .tuple #[.agg #[S [],S [],S [], .slice none 0 0], .bool false]) (by rw [bN rfl];go_simp) rfl ?_;have C:a0e w.heap.size w f:=m.trans (i.mono m.size);exact ⟨⟨_,rfl, .slice none 0 0,rfl,_,_,rfl,λh=>absurd rfl h⟩,(((C.setCell (p:=⟨w.heap.size+1+1,0,none⟩) (by simp;omega) _).setCell (p:=⟨w.heap.size+1+1,1,none⟩) (by simp;omega) _).setCell (p:=⟨w.heap.size+1+1,2,none⟩) (by simp;omega) _).setCell (p:=⟨w.heap.size+1+1,3,none⟩) (by simp;omega) _⟩
end
section
open Go.RowKit Go.Maps Go.Shelf
theorem l9 (s:Bs) (h:s.length≠4):aM s= -1:=by unfold aM;rw [if_neg λa=>h a.1]
theorem ea:∀s:Bs,s.length<4->bi s= -1
 |[],_=>rfl
 |c::l,h=>by
  unfold bi
  have:aM ((c::l).take 4)= -1:=l9 _ (by rw [a0k];simp only [a0i] at *;omega)
  rw [this,if_neg (by omega)]
  exact ea l (by simp only [a0i] at h;omega)
theorem fU (s:Bs) (k:Nat) (h:k<s.length):bi (s.drop k)=if 0<=aM ((s.drop k).take 4) then aM ((s.drop k).take 4) else bi (s.drop (k+1)):=by
 rw [a0Y h];rfl
theorem mG (o:Option af) (a:Bs):textF o a=textS (o.getD zeroF).subs a:=by
 cases o<;>rfl
theorem az.up2 {c:Nat} {w w':a0j} {v:a0u} {d:List ci} (h:az 0 c w v d) (a:a0e w.heap.size w w') (b:c<=w.heap.size):az 0 w'.heap.size w' v d:=
 (nK h b a).mono (a0d _) (a0t b a.size)
theorem aZ (w:a0j) (o:Obj):a0e w.heap.size w (w.alloc o):=(a0g _ w).alloc (a0d _) _
theorem vW (k l:UInt8) (x:a0u) (b:List af) (w:a0j) (hs:ai 0 w.heap.size w x b) (a3:bL b):
 a0p a0b 179 #[.agg #[.int .u8 k.toNat, .int .u8 l.toNat,x]] w λe w'=>e= .returned (.int .i64 (bC b))/\a0e w.heap.size w w':=by
 have HS:=a0a hs;have n:Hid (∀W,a0e (w.heap.size+1) (w.alloc (.cells #[.int .u8 k.toNat, .int .u8 l.toNat,x] 62)) W->W.cell? ⟨w.heap.size,0,none⟩=some (.int .u8 k.toNat)/\W.cell? ⟨w.heap.size,1,none⟩=some (.int .u8 l.toNat)/\W.cell? ⟨w.heap.size,2,none⟩=some x):=λW h=>by have:W.heap[w.heap.size]? =some (.cells #[.int .u8 k.toNat, .int .u8 l.toNat,x] 62 (0,0)):=(h.block _ (by omega)).trans (a0h w _);exact ⟨by rw [aa this];rfl,by rw [aa this];rfl,by rw [aa this];rfl⟩
 have H1:Hid (∀(p:Bs) (W:a0j),a0e w.heap.size w W->a0p a0b 181 #[.agg #[.int .u8 k.toNat, .int .u8 l.toNat,x],S p] W λe w'=>(∃v,e= .returned (.tuple #[v, .bool (firstF b p).isSome])/\∃d,v= .agg #[S ((firstF b p).getD zeroF).tag,S ((firstF b p).getD zeroF).ind,S ((firstF b p).getD zeroF).data,d]/\az 0 W.heap.size w' d ((firstF b p).getD zeroF).subs)/\a0e W.heap.size W w'):=λp W j=>
  m9 k l x b p W ((fe HS.out (a0d _) j).mono (a0d _) j.size) a3.1
 have a0:Hid (∀p,((firstF b p).getD zeroF).subs.length<=1000000/\(∀s∈((firstF b p).getD zeroF).subs,s.text.length<=1000000)/\(textS ((firstF b p).getD zeroF).subs [99]).length<=1000000/\((firstF b p).getD zeroF).data.length<=1000000):=λp=>by
  cases h:firstF b p with
  |none=>exact ⟨by simp [zeroF],by simp [zeroF],by simp [zeroF,textS,dq],by simp [zeroF]⟩
  |some f=>
   have Z:=a3.2 f (gL h);refine ⟨a0t (cF f) Z,λs hs=>kE Z hs,a0t (mF f [99]) Z,?_⟩;have:f.data.length<=(fieldBytes f).length:=by simp only [fieldBytes,a0f];omega
   exact a0t this Z
 have Y:Hid (bC b=if 0<=ix b then ix b else bi (textS ((firstF b [50,54,48]).getD zeroF).subs [99])):=by unfold Hid bC;rw [mG];rfl
 have a1:Hid (ix b=if (firstF b [48,48,56]).isSome=true/\11<=((firstF b [48,48,56]).getD zeroF).data.length then aM ((((firstF b [48,48,56]).getD zeroF).data.take 11).drop 7) else -1):=by
  unfold Hid ix;show (match firstF b [48,48,56] with |some f=>_|none=>_)=_;cases firstF b [48,48,56] with
  |none=>rfl
  |some f=>simp [AH]
 have H2:Hid (∀W,a0e w.heap.size w W->a0p a0b 181 #[.agg #[.int .u8 k.toNat, .int .u8 l.toNat,x],S [50,54,48]] W λe w'=>(∃v,e= .returned (.tuple #[v, .bool (firstF b [50,54,48]).isSome])/\∃d,v= .agg #[S ((firstF b [50,54,48]).getD zeroF).tag,S ((firstF b [50,54,48]).getD zeroF).ind,S ((firstF b [50,54,48]).getD zeroF).data,d]/\az 0 W.heap.size w' d ((firstF b [50,54,48]).getD zeroF).subs)/\a0e W.heap.size W w'):=H1.out [50,54,48];have V:=a0a (H1.out [48,48,56]);obtain ⟨m1,m2,m3,_⟩:=a0.out [50,54,48];obtain ⟨_,_,_,m4⟩:=a0.out [48,48,56]
 have H3:Hid (∀(a i D:Bs) (W:a0j) (d:a0u),az 0 W.heap.size W d ((firstF b [50,54,48]).getD zeroF).subs->a0p a0b 183 #[.agg #[S a,S i,S D,d], .int .u8 99] W λe w'=>e= .returned (S (textS ((firstF b [50,54,48]).getD zeroF).subs [99]))/\a0e W.heap.size W w'):=λa i D W d h=>
  pw a i D d _ 99 W h m1 m2
 have X:Hid (∀(s:Bs) (W:a0j),s.length<=1000000->a0p a0b 232 #[S s] W λe w'=>e= .returned (.int .i64 (aM s))/\a0e W.heap.size W w'):=λs W h=>sk s W h;clear H1 a0 hs a3 m2;generalize (firstF b [50,54,48]).isSome=b6 at *;generalize (firstF b [48,48,56]).isSome=b8 at *;generalize (firstF b [50,54,48]).getD zeroF=g6 at *;generalize (firstF b [48,48,56]).getD zeroF=g8 at *;obtain ⟨t6,i6,d6,s6⟩:=g6;obtain ⟨t8,i8,I,s8⟩:=g8;dsimp only at *;generalize textS s6 [99]=T at *;have A:Hid (a0e w.heap.size w (w.alloc (.cells #[.int .u8 k.toNat, .int .u8 l.toNat,x] 62))):=(a0g _ w).alloc (a0d _) _;have au:(w.alloc (.cells #[.int .u8 k.toNat, .int .u8 l.toNat,x] 62)).heap.size=w.heap.size+1:=by simp
 cases b8
 · have B:Hid (bC b=bi T):=by unfold Hid;rw [Y.out,a1.out,if_neg (by simp)]
   go_enter Tryz.func179,Tryz.ntmps179
   go_wp2_with (first
    |(go_at_call 181;((with_reducible refine a0c (V.out _ A.out) ?_);rintro e g ⟨⟨v,rfl,dd,rfl,m⟩,u⟩;obtain ⟨ad,cp,rfl,_⟩:=m;have c:Hid (∀o,a0e (w.heap.size+1) (w.alloc (.cells #[.int .u8 k.toNat, .int .u8 l.toNat,x] 62)) (g.alloc o)):=λo=>(u.mono (by omega)).alloc (by have:=u.size;omega) o;have C:Hid (∀o,a0e w.heap.size w (g.alloc o)):=λo=>A.out.trans ((c.out o).mono (by omega));have xa:∀o,(g.alloc o).cell? ⟨w.heap.size,0,none⟩=some (.int .u8 k.toNat):=λo=>(n.out _ (c.out o)).1;have xb:∀o,(g.alloc o).cell? ⟨w.heap.size,1,none⟩=some (.int .u8 l.toNat):=λo=>(n.out _ (c.out o)).2.1;have xc:∀o,(g.alloc o).cell? ⟨w.heap.size,2,none⟩=some x:=λo=>(n.out _ (c.out o)).2.2))
    |(go_at_call 181;((with_reducible refine a0c (H2.out _ (C.out _)) ?_);rintro e Q ⟨⟨v5,rfl,d5,rfl,m⟩,G⟩;obtain ⟨a6,a7,rfl,_⟩:=id m;have L:=a0a m;clear m))
    |(go_at_call 183;((with_reducible refine a0c (H3.out _ _ _ _ _ (L.out.up2 (aZ _ _) G.size)) ?_);rintro e R ⟨rfl,M⟩)))
   have y:a0e w.heap.size w Q:=btr (C _) G ((C _)).size;have N:a0e w.heap.size w R:=btr (y.alloc y.size _) M (by have:=y.size;simp;omega);go_loopw [9,10] (λi _n wr=>∃q:Nat,q<=T.length/\i= .int .i64 q/\Hid (bi T=bi (T.drop q))/\a0e w.heap.size w wr) (λi _ _=>T.length - (intOf i).toNat)
   case atStart=>exact ⟨0,a0y _,rfl,rfl,N⟩
   case round=>
    obtain ⟨q,hq,rfl,t,j⟩:=hrel;by_cases hlt:q+4<=T.length
    · have O:(q:Int)+4<=(T.length:Int):=by omega
      have H:((T.take (q+4)).drop q)=(T.drop q).take 4:=by rw [List.take_drop]
      have r:Hid (bi (T.drop q)=if 0<=aM ((T.take (q+4)).drop q) then aM ((T.take (q+4)).drop q) else bi (T.drop (q+1))):=by unfold Hid;rw [fU T q (by omega),H]
      have F:Hid (∀W,a0p a0b 232 #[S ((T.take (q+4)).drop q)] W λe w'=>e= .returned (.int .i64 (aM ((T.take (q+4)).drop q)))/\a0e W.heap.size W w'):=λW=>X.out _ W (by rw [a0o,a0k];omega);clear H;generalize aM ((T.take (q+4)).drop q)=nf at *;by_cases hnf:0<=nf
      · rw [if_pos hnf] at r;go_wp2_with (go_at_call 232;((with_reducible refine a0c (F.out _) ?_);rintro e U ⟨rfl,z⟩))
        go_ret;exact ⟨aG (by rw [B.out,t.out,r.out]),btr j z j.size⟩
      · rw [if_neg hnf] at r;go_wp2_with (go_at_call 232;((with_reducible refine a0c (F.out _) ?_);rintro e U ⟨rfl,z⟩))
        go_roundw
        case rel=>exact ⟨q+1,by omega,by go_num,by unfold Hid;rw [t.out,r.out],btr j z j.size⟩
        case measure=>simp [intOf];omega
    · have O:¬((q:Int)+4<=(T.length:Int)):=by omega
      have K:Hid (bi (T.drop q)= -1):=ea _ (by rw [a0o];omega);go_wp2_with fail
      go_ret;exact ⟨aG (by rw [B.out,t.out,K.out]),j⟩
 · by_cases h11:11<=I.length
   · have a9:(11:Int)<=(I.length:Int):=by omega
     have a5:Hid (ix b=aM ((I.take 11).drop 7)):=by unfold Hid;rw [a1.out,if_pos ⟨rfl,h11⟩]
     have a4:Hid (∀W,a0p a0b 232 #[S ((I.take 11).drop 7)] W λe w'=>e= .returned (.int .i64 (aM ((I.take 11).drop 7)))/\a0e W.heap.size W w'):=λW=>X.out _ W (by rw [a0o,a0k];omega);generalize aM ((I.take 11).drop 7)=nf8 at *;by_cases hnf8:0<=nf8
     · have B:Hid (bC b=nf8):=by unfold Hid;rw [Y.out,a5.out,if_pos hnf8]
       go_enter Tryz.func179,Tryz.ntmps179
       go_wp2_with (first
        |(go_at_call 181;((with_reducible refine a0c (V.out _ A.out) ?_);rintro e g ⟨⟨v,rfl,dd,rfl,m⟩,u⟩;obtain ⟨ad,cp,rfl,_⟩:=m;have c:Hid (∀o,a0e (w.heap.size+1) (w.alloc (.cells #[.int .u8 k.toNat, .int .u8 l.toNat,x] 62)) (g.alloc o)):=λo=>(u.mono (by omega)).alloc (by have:=u.size;omega) o;have C:Hid (∀o,a0e w.heap.size w (g.alloc o)):=λo=>A.out.trans ((c.out o).mono (by omega));have xa:∀o,(g.alloc o).cell? ⟨w.heap.size,0,none⟩=some (.int .u8 k.toNat):=λo=>(n.out _ (c.out o)).1;have xb:∀o,(g.alloc o).cell? ⟨w.heap.size,1,none⟩=some (.int .u8 l.toNat):=λo=>(n.out _ (c.out o)).2.1;have xc:∀o,(g.alloc o).cell? ⟨w.heap.size,2,none⟩=some x:=λo=>(n.out _ (c.out o)).2.2))
        |(go_at_call 232;((with_reducible refine a0c (a4.out _) ?_);rintro e P ⟨rfl,a2⟩;have E:a0e (w.heap.size+1) (w.alloc (.cells #[.int .u8 k.toNat, .int .u8 l.toNat,x] 62)) P:=btr (c.out _) a2 (by have:=(c.out (.cells #[] 0)).size;simp at this ⊢;omega);have J:Hid (a0e w.heap.size w P):=A.out.trans (E.mono (by omega));have ac:=(n.out _ E).1;have al:=(n.out _ E).2.1;have ao:=(n.out _ E).2.2)))
       go_ret;exact ⟨aG B.symm,J.out⟩
     · have B:Hid (bC b=bi T):=by unfold Hid;rw [Y.out,a5.out,if_neg hnf8]
       go_enter Tryz.func179,Tryz.ntmps179
       go_wp2_with (first
        |(go_at_call 181;((with_reducible refine a0c (V.out _ A.out) ?_);rintro e g ⟨⟨v,rfl,dd,rfl,m⟩,u⟩;obtain ⟨ad,cp,rfl,_⟩:=m;have c:Hid (∀o,a0e (w.heap.size+1) (w.alloc (.cells #[.int .u8 k.toNat, .int .u8 l.toNat,x] 62)) (g.alloc o)):=λo=>(u.mono (by omega)).alloc (by have:=u.size;omega) o;have C:Hid (∀o,a0e w.heap.size w (g.alloc o)):=λo=>A.out.trans ((c.out o).mono (by omega));have xa:∀o,(g.alloc o).cell? ⟨w.heap.size,0,none⟩=some (.int .u8 k.toNat):=λo=>(n.out _ (c.out o)).1;have xb:∀o,(g.alloc o).cell? ⟨w.heap.size,1,none⟩=some (.int .u8 l.toNat):=λo=>(n.out _ (c.out o)).2.1;have xc:∀o,(g.alloc o).cell? ⟨w.heap.size,2,none⟩=some x:=λo=>(n.out _ (c.out o)).2.2))
        |(go_at_call 232;((with_reducible refine a0c (a4.out _) ?_);rintro e P ⟨rfl,a2⟩;have E:a0e (w.heap.size+1) (w.alloc (.cells #[.int .u8 k.toNat, .int .u8 l.toNat,x] 62)) P:=btr (c.out _) a2 (by have:=(c.out (.cells #[] 0)).size;simp at this ⊢;omega);have J:Hid (a0e w.heap.size w P):=A.out.trans (E.mono (by omega));have ac:=(n.out _ E).1;have al:=(n.out _ E).2.1;have ao:=(n.out _ E).2.2))
        |(go_at_call 181;((with_reducible refine a0c (H2.out _ J.out) ?_);rintro e Q ⟨⟨v5,rfl,d5,rfl,m⟩,G⟩;obtain ⟨a6,a7,rfl,_⟩:=id m;have L:=a0a m;clear m))
        |(go_at_call 183;((with_reducible refine a0c (H3.out _ _ _ _ _ (L.out.up2 (aZ _ _) G.size)) ?_);rintro e R ⟨rfl,M⟩)))
       have y:a0e w.heap.size w Q:=btr J.out G (J.out).size;have N:a0e w.heap.size w R:=btr (y.alloc y.size _) M (by have:=y.size;simp;omega);go_loopw [9,10] (λi _n wr=>∃q:Nat,q<=T.length/\i= .int .i64 q/\Hid (bi T=bi (T.drop q))/\a0e w.heap.size w wr) (λi _ _=>T.length - (intOf i).toNat)
       case atStart=>exact ⟨0,a0y _,rfl,rfl,N⟩
       case round=>
        obtain ⟨q,hq,rfl,t,j⟩:=hrel;by_cases hlt:q+4<=T.length
        · have O:(q:Int)+4<=(T.length:Int):=by omega
          have H:((T.take (q+4)).drop q)=(T.drop q).take 4:=by rw [List.take_drop]
          have r:Hid (bi (T.drop q)=if 0<=aM ((T.take (q+4)).drop q) then aM ((T.take (q+4)).drop q) else bi (T.drop (q+1))):=by unfold Hid;rw [fU T q (by omega),H]
          have F:Hid (∀W,a0p a0b 232 #[S ((T.take (q+4)).drop q)] W λe w'=>e= .returned (.int .i64 (aM ((T.take (q+4)).drop q)))/\a0e W.heap.size W w'):=λW=>X.out _ W (by rw [a0o,a0k];omega);clear H;generalize aM ((T.take (q+4)).drop q)=nf at *;by_cases hnf:0<=nf
          · rw [if_pos hnf] at r;go_wp2_with (go_at_call 232;((with_reducible refine a0c (F.out _) ?_);rintro e U ⟨rfl,z⟩))
            go_ret;exact ⟨aG (by rw [B.out,t.out,r.out]),btr j z j.size⟩
          · rw [if_neg hnf] at r;go_wp2_with (go_at_call 232;((with_reducible refine a0c (F.out _) ?_);rintro e U ⟨rfl,z⟩))
            go_roundw
            case rel=>exact ⟨q+1,by omega,by go_num,by unfold Hid;rw [t.out,r.out],btr j z j.size⟩
            case measure=>simp [intOf];omega
        · have O:¬((q:Int)+4<=(T.length:Int)):=by omega
          have K:Hid (bi (T.drop q)= -1):=ea _ (by rw [a0o];omega);go_wp2_with fail
          go_ret;exact ⟨aG (by rw [B.out,t.out,K.out]),j⟩
   · have a9:¬((11:Int)<=(I.length:Int)):=by omega
     have a8:ix b= -1:=by rw [a1.out,if_neg (λh=>h11 h.2)]
     have B:Hid (bC b=bi T):=by unfold Hid;rw [Y.out,a8,if_neg (by omega)]
     clear a8;go_enter Tryz.func179,Tryz.ntmps179
     go_wp2_with (first
      |(go_at_call 181;((with_reducible refine a0c (V.out _ A.out) ?_);rintro e g ⟨⟨v,rfl,dd,rfl,m⟩,u⟩;obtain ⟨ad,cp,rfl,_⟩:=m;have c:Hid (∀o,a0e (w.heap.size+1) (w.alloc (.cells #[.int .u8 k.toNat, .int .u8 l.toNat,x] 62)) (g.alloc o)):=λo=>(u.mono (by omega)).alloc (by have:=u.size;omega) o;have C:Hid (∀o,a0e w.heap.size w (g.alloc o)):=λo=>A.out.trans ((c.out o).mono (by omega));have xa:∀o,(g.alloc o).cell? ⟨w.heap.size,0,none⟩=some (.int .u8 k.toNat):=λo=>(n.out _ (c.out o)).1;have xb:∀o,(g.alloc o).cell? ⟨w.heap.size,1,none⟩=some (.int .u8 l.toNat):=λo=>(n.out _ (c.out o)).2.1;have xc:∀o,(g.alloc o).cell? ⟨w.heap.size,2,none⟩=some x:=λo=>(n.out _ (c.out o)).2.2))
      |(go_at_call 181;((with_reducible refine a0c (H2.out _ (C.out _)) ?_);rintro e Q ⟨⟨v5,rfl,d5,rfl,m⟩,G⟩;obtain ⟨a6,a7,rfl,_⟩:=id m;have L:=a0a m;clear m))
      |(go_at_call 183;((with_reducible refine a0c (H3.out _ _ _ _ _ (L.out.up2 (aZ _ _) G.size)) ?_);rintro e R ⟨rfl,M⟩)))
     have y:a0e w.heap.size w Q:=btr (C _) G ((C _)).size;have N:a0e w.heap.size w R:=btr (y.alloc y.size _) M (by have:=y.size;simp;omega);go_loopw [9,10] (λi _n wr=>∃q:Nat,q<=T.length/\i= .int .i64 q/\Hid (bi T=bi (T.drop q))/\a0e w.heap.size w wr) (λi _ _=>T.length - (intOf i).toNat)
     case atStart=>exact ⟨0,a0y _,rfl,rfl,N⟩
     case round=>
      obtain ⟨q,hq,rfl,t,j⟩:=hrel;by_cases hlt:q+4<=T.length
      · have O:(q:Int)+4<=(T.length:Int):=by omega
        have H:((T.take (q+4)).drop q)=(T.drop q).take 4:=by rw [List.take_drop]
        have r:Hid (bi (T.drop q)=if 0<=aM ((T.take (q+4)).drop q) then aM ((T.take (q+4)).drop q) else bi (T.drop (q+1))):=by unfold Hid;rw [fU T q (by omega),H]
        have F:Hid (∀W,a0p a0b 232 #[S ((T.take (q+4)).drop q)] W λe w'=>e= .returned (.int .i64 (aM ((T.take (q+4)).drop q)))/\a0e W.heap.size W w'):=λW=>X.out _ W (by rw [a0o,a0k];omega);clear H;generalize aM ((T.take (q+4)).drop q)=nf at *;by_cases hnf:0<=nf
        · rw [if_pos hnf] at r;go_wp2_with (go_at_call 232;((with_reducible refine a0c (F.out _) ?_);rintro e U ⟨rfl,z⟩))
          go_ret;exact ⟨aG (by rw [B.out,t.out,r.out]),btr j z j.size⟩
        · rw [if_neg hnf] at r;go_wp2_with (go_at_call 232;((with_reducible refine a0c (F.out _) ?_);rintro e U ⟨rfl,z⟩))
          go_roundw
          case rel=>exact ⟨q+1,by omega,by go_num,by unfold Hid;rw [t.out,r.out],btr j z j.size⟩
          case measure=>simp [intOf];omega
      · have O:¬((q:Int)+4<=(T.length:Int)):=by omega
        have K:Hid (bi (T.drop q)= -1):=ea _ (by rw [a0o];omega);go_wp2_with fail
        go_ret;exact ⟨aG (by rw [B.out,t.out,K.out]),j⟩
end
end Go.Proofs.YtjcimanddakkaaaGreatDoor
