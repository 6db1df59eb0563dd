/- Lemmas. -/
import Derived.Test.YtjcimanddakkaaaGreatDoorY12
import Derived.Test.YtjcimanddakkaaaGreatDoorY15
import Derived.Lib.TrimAscii
import Derived.Lib.ConvBytes
set_option maxRecDepth 100000
set_option maxHeartbeats 8000000
namespace Go.Proofs.YtjcimanddakkaaaGreatDoor
open Go.Value renaming slice→cs,bool→dy,int→J,pointer→e6
open _root_.Option renaming some→X,none→Y
open Go.Ending renaming returned→dx
open Go.Lib renaming hid→Z
open Go.IntKind renaming u8→dz,i64→U,i32→e5
open Go.Obj renaming cells→e7
open Tryz
open Go.Calls renaming mono→eg
open _root_.Nat renaming le_refl→em,le_trans→fz,zero_le→gp,zero_add→ht,mul_le_mul→hF,one_pos→hJ
open _root_.List renaming length_append→er,length_cons→eQ,length_take→e9,length_drop→fr,take_of_length_le→gd,filter_cons→gi,length_map→gq,replicate→gs,drop_of_length_le→gt,map_append→gx,map_cons→gz,mem_cons_of_mem→gP,takeWhile_cons→g0,sum_cons→g2,mem_cons_self→g3,take_succ_eq_append_getElem→g4,getElem_mem→g7,length_nil→he,append_nil→hf,getD_eq_getElem?_getD→ho,drop_eq_getElem_cons→hu,length→hH,all_eq_true→hK,take_succ_cons→hW,getD_cons_succ→hX,filter_append→hZ,eq_nil_of_length_eq_zero→ia,map→ib,nil_append→it,getElem?_eq_getElem→iQ,take_append_drop→i1,length_singleton→i2,length_filter_le→i4,mem_of_mem_take→jb,getD_cons_zero→j3,map_singleton→ka
open Go.RowKit.Below renaming refl→es,heap_alloc→fp,heap_setCell→g1
open Go.World renaming alloc_heap_new→ex,size_alloc→fx,cell?_alloc_new→hP,iterPos→hY,ownsRow_nil→h7
open Go renaming World→e8,Calls→fs,rounds_succ→ft,Value→gb,wp_loop_rounds→g9,bodyPost_ret→ha,wpList_append_own_at→hj,info_parts→iD
open _root_.Array renaming getElem?_setIfInBounds_ne→fc,getElem?_append_left→hh,getElem?_eq_none→iS,length_toList→j0
open _root_.UInt8 renaming ofNat→fl,ofNat_toNat→j4
open Go.Utf8 renaming decode→fy,encode→hb
open _root_.Int renaming tmod_eq_emod_of_nonneg→gn
open Go.Exit renaming noGoto_ret→gy
open Go.IntWalk renaming i64_in→gO
open Go.Value renaming string→gQ,oneCell'→g5,int→hQ,slice→hV,ownBlock→iF
open Go.World.ownsRow renaming form→hI
open Go.Lib renaming indexByte→hM,compact→hO,putRow_eq_setCells→ja,trimS→jn,run_next_end_at→kb,run_next_any_at→kc
open _root_.Bool renaming eq_iff_iff→iv
open Go.RowKit renaming Below→iN
open Go.Instr renaming next→iP
section
open Go.RowKit Go.Maps Go.Shelf Go.Lib Go.Sort
theorem xP (s:Bs):encStr s=S s:=rfl
theorem gN {lo g c n:Nat} {w:e8} {a:List Bs} (h:w.ownsRow lo 9 1 (cs (X ⟨g,0,Y⟩) n c) n (a.map λs=>S s)):Holds encStr w g 0 a.toArray:=by
 intro j b;have d:j<a.length:=by simpa using b
 rw [ht];refine ⟨?_,h.frozenAt j⟩;rw [h.cellAt j (by have:=h.1;simp at this;omega),getElem!_pos a.toArray j b];simp [d,xP]
theorem kW (lo:Nat) (w:e8) (v:gb) (a:List Bs) (h:w.ownsRow lo 9 1 v a.length (a.map λs=>S s)) (A:a.length<=4000000000000):
 fs prog 186 #[v] w λe w'=>e=dx (.tuple #[])/\w'.ownsRow lo 9 1 v a.length ((a.mergeSort λx y=>decide (x<=y)).map λs=>S s)/\iN lo w w'/\∀q,q<w.heap.size->v.ownBlock≠X q->w'.heap[q]? =w.heap[q]? :=by
 rcases h.2 with ⟨rfl,p⟩|⟨g,i,z,rfl,_⟩
 · have u:a=[]:=ia p;subst u;refine (slices_Sort_string_none Y 0 w).mono ?_;rintro e w' ⟨rfl,rfl⟩;exact ⟨rfl,by simpa using h,es _ _,λ_ _ _=>rfl⟩
 · have k:=h.lt g (by simp [iF]);refine (slices_Sort_string g 0 i a w (gN h) k.2 (by omega)).mono ?_;rintro e w' ⟨rfl,n,o,rfl⟩;refine ⟨rfl,?_⟩;obtain ⟨ys,l⟩:=Qe ((a.mergeSort λx y=>decide (x<=y)));have f:ys.length=a.length:=by rw [<- l];exact List.length_mergeSort _
   rw [l,ja encStr w g 0 a.toArray ys n (gN h) (by simpa using f)];have r:(w.drewN n).ownsRow lo 9 1 (cs (X ⟨g,0,Y⟩) a.length i) a.length (a.map λs=>S s):=h;obtain ⟨j,c⟩:=cT (ys.map encStr) 0 (w.drewN n) (a.map λs=>S s) r (by simp [f]);rw [List.take_zero,it,ht,gt (by simp [f]),hf] at j;have m:((w.drewN n).setCells g 0 (ys.map encStr)).heap.size=w.heap.size:=c.size;have d:∀q,q<w.heap.size->(Sort.grow ((w.drewN n).setCells g 0 (ys.map encStr)) o).heap[q]? =((w.drewN n).setCells g 0 (ys.map encStr)).heap[q]? :=λq b=>by show (((w.drewN n).setCells g 0 (ys.map encStr)).heap++o)[q]? =_;rw [hh (by rw [m];exact b)]
   refine ⟨ah j (λq b=>?_),⟨c.os,c.tape,c.output,by rw [Sort.size_grow,m];omega,λq b=>?_⟩,λq b t=>(d q b).trans (c.block q (λe=>t (by rw [e];rfl)))⟩
   · simp [iF] at b;subst b;exact d _ k.2
   · rw [d q (by omega)];exact c.block q (by omega)
theorem j6 (zs:List Bs):(hO zs).length<=zs.length:=by
 unfold hO Lib.compactUpTo;rw [gq];refine fz (i4 _ _) ?_;simp
theorem yE {lo e g a n:Nat} {w:e8} {c:List gb} (h:w.ownsRow lo e 1 (cs (X ⟨g,0,Y⟩) n a) n c) (m:Nat) (o:m<=n):w.ownsRow lo e 1 (cs (X ⟨g,0,Y⟩) m a) m (c.take m):=by
 obtain ⟨r,⟨b,_⟩|⟨q,p,d,b,f,i,s,j,k,l⟩⟩:=h
 · cases b
 · injection b with a1 a2 a3
   injection a1 with a1
   injection a1 with a1
   subst a1 a3;refine ⟨by rw [e9];omega, .inr ⟨g,a,d,rfl,f,i,by omega,j,k,?_⟩⟩;rw [<- l,List.take_take,Nat.mul_one,Nat.mul_one,Nat.min_eq_left o]
theorem gG (lo:Nat) (w:e8) (v:gb) (a:List Bs) (h:w.ownsRow lo 9 1 v a.length (a.map λs=>S s)) (x:a.length<=4000000000000):
 fs prog 187 #[v] w λe w'=>∃i,e=dx i/\w'.ownsRow lo 9 1 i (hO a).length ((hO a).map λs=>S s)/\iN lo w w'/\∀q,q<w.heap.size->v.ownBlock≠X q->w'.heap[q]? =w.heap[q]? :=by
 rcases h.2 with ⟨rfl,j⟩|⟨g,c,t,rfl,_,_,l,_⟩
 · have r:a=[]:=ia j;subst r;refine (slices_Compact_string_empty Y 0 w).mono ?_;rintro e w' ⟨rfl,rfl⟩;exact ⟨_,rfl,(by have e:hO ([]:List Bs)=[]:=rfl;rw [e];exact h),es _ _,λ_ _ _=>rfl⟩
 · have u:=h.lt g (by simp [iF]);refine (slices_Compact_string g 0 c a w (gN h) (by omega) l).mono ?_;rintro e w' ⟨rfl,n,rfl⟩;obtain ⟨ys,f⟩:=Qe (hO a);have m:ys.length<=a.length:=by rw [<- f];exact j6 a
   rw [f];refine ⟨_,rfl,?_⟩;rw [ja encStr w g 0 a.toArray _ n (gN h) (by simp;omega)];have k:(w.drewN n).ownsRow lo 9 1 (cs (X ⟨g,0,Y⟩) a.length c) a.length (a.map λs=>S s):=h;obtain ⟨d,b⟩:=cT ((ys++gs (a.length - ys.length) []).map encStr) 0 (w.drewN n) (a.map λs=>S s) k (by simp;omega);rw [List.take_zero,it,ht,gt (by simp;omega),hf] at d;refine ⟨?_,⟨b.os,b.tape,b.output,by rw [b.size];exact em _,λq p=>b.block q (by omega)⟩,λq p o=>b.block q (λe=>o (by rw [e];rfl))⟩;have:=yE d ys.length m;have e:((ys++gs (a.length - ys.length) []).map encStr).take ys.length=ys.map encStr:=by rw [gx,List.take_left' (by simp)]
   rw [e] at this;exact this
end
section
open Go.RowKit Go.Maps Go.Shelf
theorem dH (s:Bs) (w:e8) (c:s.length<=9223372036854775807):fs prog 230 #[S s] w λe w'=>e=dx (dy (s.all digitB))/\Bw w w':=by
 have H:=Z (nM ⟨s.toArray⟩ w c);have a:=Z (kM s);change Hid (fs prog 204 #[S s, .string ⟨#[48,49,50,51,52,53,54,55,56,57]⟩] w λe w'=>e=dx (S (jn s iy))/\Bw w w') at H;generalize jn s iy=t at *;go_enter func230,ntmps230;go_wp2_with (go_at_call 204;((with_reducible refine eg H.o ?_);rintro e w' ⟨rfl,b⟩))
 go_ret;refine ⟨ap ?_,b⟩;rw [iv, <- a.o];simp
theorem ly:∀l:List Bs,Lib.join l [32]=dw l
 |[]=>rfl
 |[a]=>by rw [Lib.join_one];rfl
 |a::b::l=>by
  rw [Lib.join_cons]
  have h:=ly (b::l)
  rw [Lib.join_cons] at h
  unfold dw
  rw [<- h]
  simp [Lib.joinTail]
theorem AI (l:List Bs):l.map (λs=>S s)=(l.map λs=>(⟨s.toArray⟩:ByteArray)).map gQ:=by simp [S]
theorem lw {w:e8} {B n:Nat} {v:gb} {l:List Bs} (h:w.ownsRow B 9 1 v n (l.map λs=>S s)) (C:l.length<=100000000) (o:(dw l).length<=140737488355328):
 fs prog 244 #[v,S [32]] w λe w'=>e=dx (S (dw l))/\Bw w w':=by
 rcases h.2 with ⟨rfl,t⟩|⟨g,f,i,rfl,A,c,k,y,z,m⟩
 · have p:l=[]:=by have:=h.1;rw [t] at this;simpa using this
   subst p;refine (strings_Join_none Y 0 ⟨#[32]⟩ w).mono ?_;rintro e w' ⟨rfl,rfl⟩;exact ⟨rfl,es _ _⟩
 · have q:l.length=n:=by have:=h.1;simpa using this
   subst q;have r:(l.map λs=>(⟨s.toArray⟩:ByteArray)).map (·.data.toList)=l:=by simp [Function.comp_def]
   have b:(l.map λs=>(⟨s.toArray⟩:ByteArray)).length=l.length:=by simp
   have d:Lib.join ((l.map λs=>(⟨s.toArray⟩:ByteArray)).map (·.data.toList)) (⟨#[32]⟩:ByteArray).data.toList=dw l:=by rw [r];exact ly l
   have H:=strings_Join g 0 f (l.map λs=>(⟨s.toArray⟩:ByteArray)) ⟨#[32]⟩ w (λj x u=>?_) (ae c) (by rw [b];omega) (by rw [b];exact k) (by rw [d];exact o)
   · rw [d,b] at H;exact H
   · rw [ht,aa c];have a:(i.toList.take (l.length * 1))[j]? =X (.string x):=by rw [m,AI,List.getElem?_map,u];rfl
     rw [List.getElem?_take] at a;split at a
     · rw [<- a,Array.getElem?_toList]
     · cases a
theorem nN (s:Bs) (w:e8):fs prog 282 #[S s,S [48]] w λe w'=>e=dx (S (s.dropWhile (· ==48)))/\w'=w:=
 Any.strings_TrimLeft_one ze ⟨s.toArray⟩ 48 (by decide) w
theorem o8 (s:Bs) (b:Nat) (a:b<s.length) (k:Nat):checkGo k (s.take (b+1))=checkGo k (s.take b)+valB (s.getD b 0) * (1+2 * ((k+b)%2)):=by
 induction s generalizing b k with
 |nil=>simp at a
 |cons c l ih=>
  cases b with
  |zero=>simp [checkGo]
  |succ b=>
   have d:b<l.length:=by simpa using a
   have h:=ih b d (k+1);simp only [hW,checkGo,hX];rw [h,show k+1+b=k+(b+1) by omega];omega
theorem sY (s:Bs) (k:Nat) (h:∀c∈s,valB c<=255):checkGo k s<=765 * s.length:=by
 induction s generalizing k with
 |nil=>simp [checkGo]
 |cons c l ih=> have d:=ih (k+1) λx b=>h x (gP _ b);have a:=h c g3;simp only [checkGo,eQ];have e:valB c * (1+2 * (k%2))<=255 * 3:=hF a (by omega);omega
abbrev signsI:Bs:=[48,49,50,51,52,53,54,55,56,57,88,120,32,45]
theorem xO (c:Nat) (h:128<=c):(∃a y:UInt8,hb (c:Int)=⟨#[a,y]⟩/\128<=y.toNat)∨(∃a b y:UInt8,hb (c:Int)=⟨#[a,b,y]⟩/\128<=y.toNat)∨∃a b d y:UInt8,hb (c:Int)=⟨#[a,b,d,y]⟩/\128<=y.toNat:=by
 have f:∃n,(if Utf8.valid (c:Int) then (c:Int).toNat else Utf8.runeError)=n/\128<=n:=by
  refine ⟨_,rfl,?_⟩;split
  · simpa using h
  · decide
 obtain ⟨n,g,i⟩:=f;have e:∀k:Nat,128<=(fl (128+k%64)).toNat:=λk=>by
  have:(fl (128+k%64)).toNat=128+k%64:=by rw [UInt8.toNat_ofNat'];omega
  omega
 unfold hb;rw [g];dsimp only;rw [if_neg (by omega)];split
 · exact .inl ⟨_,_,rfl,e n⟩
 · split
   · exact .inr (.inl ⟨_,_,_,rfl,e n⟩)
   · exact .inr (.inr ⟨_,_,_,_,rfl,e n⟩)
theorem oO (y:UInt8) (h:128<=y.toNat) (l:Bs) (a:∀b∈l,b.toNat<128) (w:e8):fs prog 246 #[S l,J dz y.toNat] w λe w'=>e=dx (J U (-1))/\w'=w:=by
 have:=strings_IndexByte ⟨l.toArray⟩ y.toNat w;refine this.mono ?_;rintro e w' ⟨rfl,rfl⟩;refine ⟨?_,rfl⟩;have c:(y.toNat:Int).toNat.toUInt8=y:=by simp
 rw [c];have:hM l y= -1:=by
  clear this c;induction l with
  |nil=>rfl
  |cons b l ih=>
   have:=a b g3;simp only [hM];have f:(b==y)=false:=by
    cases hby:b==y
    · rfl
    · have e:b=y:=by simpa using hby
      rw [e] at this;omega
   rw [f,ih (λd g=>a d (gP _ g))];rfl
 exact congrArg (λi=>Ending.returned (J U i)) this
theorem uq (c:Nat) (i:c<=1114111) (a:¬(55296<=c/\c<=57343)) (w:e8):fs prog 312 #[J e5 c] w λe w'=>e=dx (dy true)/\w'=w:=by
 have d:(0:Int)<=c:=by omega
 by_cases h:c<55296
 · have b:(c:Int)<55296:=by omega
   clear a h;go_enter func312,ntmps312;go_wp2_with fail
   go_ret;exact ⟨rfl,rfl⟩
 · have b:¬(c:Int)<55296:=by omega
   have f:(57343:Int)<c:=by omega
   have g:(c:Int)<=1114111:=by omega
   clear a h;go_enter func312,ntmps312;go_wp2_with fail
   go_ret;exact ⟨rfl,rfl⟩
theorem nK (c:Nat) (a:55296<=c/\c<=57343) (w:e8):fs prog 312 #[J e5 c] w λe w'=>e=dx (dy false)/\w'=w:=by
 have b:(0:Int)<=c:=by omega
 have d:¬(c:Int)<55296:=by omega
 have f:¬(57343:Int)<c:=by omega
 clear a;go_enter func312,ntmps312;go_wp2_with fail
 go_ret;exact ⟨rfl,rfl⟩
theorem vk (c:Nat) (h:128<=c) (l:c<=1114111) (m:c≠65533) (w:e8):fs prog 284 #[S signsI,J e5 c] w λe w'=>e=dx (J U (-1))/\Bw w w':=by
 have q:(0:Int)<=c:=by omega
 have r:¬(c:Int)<128:=by omega
 have s:¬((c:Int)=65533):=by omega
 by_cases hs:55296<=c/\c<=57343
 · have k:Hid (∀W,fs prog 312 #[J e5 c] W λe w'=>e=dx (dy false)/\w'=W):=λW=>nK c hs W;clear hs h m l;go_enter func284,ntmps284;go_wp2_with (go_at_call 312;((with_reducible refine eg (k.o _) ?_);rintro e w1 ⟨rfl,rfl⟩))
   go_ret;exact ⟨rfl,es _ _⟩
 · have k:Hid (∀W,fs prog 312 #[J e5 c] W λe w'=>e=dx (dy true)/\w'=W):=λW=>uq c l hs W;have p:=xO c h;clear hs h m l;rcases p with ⟨a,y,f,g⟩|⟨a,b,y,f,g⟩|⟨a,b,d,y,f,g⟩
   · have j:Hid (∀W,fs prog 246 #[S [50,51,52,53,54,55,56,57,88,120,32,45],J dz y.toNat] W λe w'=>e=dx (J U (-1))/\w'=W):=λW=>oO y g _ (by decide) W;have n:¬((49:Int)=y.toNat):=by omega
     have i:Hid (gQ (hb (c:Int))=S [a,y]):=by unfold Hid;rw [f]
     clear g f;go_enter func284,ntmps284;go_upto_region 2 with (go_at_call 312;((with_reducible refine eg (k.o _) ?_);rintro e w1 ⟨rfl,rfl⟩))
     go_step3
     go_upto_region 2 with fail
     rw [i.o];go_wp2_with fail
     refine g9 2 ?_;rw [ft];go_wp2_with fail
     go_step3
     go_wp2_with fail
     go_region;go_wp2_with fail
     go_region_with (go_at_call 246;refine (j.o _).mono ?_;rintro e o ⟨rfl,rfl⟩)
     all_goals (go_wp2_with fail;rw [gy];go_wp2_with fail;rw [gy];go_wp2_with fail;go_ret;exact ⟨rfl,(es _ _).drew.drew⟩)
   · have j:Hid (∀W,fs prog 246 #[S [51,52,53,54,55,56,57,88,120,32,45],J dz y.toNat] W λe w'=>e=dx (J U (-1))/\w'=W):=λW=>oO y g _ (by decide) W;have n:¬((50:Int)=y.toNat):=by omega
     have i:Hid (gQ (hb (c:Int))=S [a,b,y]):=by unfold Hid;rw [f]
     clear g f;go_enter func284,ntmps284;go_upto_region 2 with (go_at_call 312;((with_reducible refine eg (k.o _) ?_);rintro e w1 ⟨rfl,rfl⟩))
     go_step3
     go_upto_region 2 with fail
     rw [i.o];go_wp2_with fail
     refine g9 2 ?_;rw [ft];go_wp2_with fail
     go_step3
     go_wp2_with fail
     go_region;go_wp2_with fail
     go_region_with (go_at_call 246;refine (j.o _).mono ?_;rintro e o ⟨rfl,rfl⟩)
     all_goals (go_wp2_with fail;rw [gy];go_wp2_with fail;rw [gy];go_wp2_with fail;go_ret;exact ⟨rfl,(es _ _).drew.drew⟩)
   · have j:Hid (∀W,fs prog 246 #[S [52,53,54,55,56,57,88,120,32,45],J dz y.toNat] W λe w'=>e=dx (J U (-1))/\w'=W):=λW=>oO y g _ (by decide) W;have n:¬((51:Int)=y.toNat):=by omega
     have i:Hid (gQ (hb (c:Int))=S [a,b,d,y]):=by unfold Hid;rw [f]
     clear g f;go_enter func284,ntmps284;go_upto_region 2 with (go_at_call 312;((with_reducible refine eg (k.o _) ?_);rintro e w1 ⟨rfl,rfl⟩))
     go_step3
     go_upto_region 2 with fail
     rw [i.o];go_wp2_with fail
     refine g9 2 ?_;rw [ft];go_wp2_with fail
     go_step3
     go_wp2_with fail
     go_region;go_wp2_with fail
     go_region_with (go_at_call 246;refine (j.o _).mono ?_;rintro e o ⟨rfl,rfl⟩)
     all_goals (go_wp2_with fail;rw [gy];go_wp2_with fail;rw [gy];go_wp2_with fail;go_ret;exact ⟨rfl,(es _ _).drew.drew⟩)
theorem mE (w:e8):fs prog 284 #[S signsI,J e5 65533] w λe w'=>e=dx (J U (-1))/\Bw w w':=by
 have q:Hid (∀p<14,(fy ⟨signsI.toArray⟩ p).2=1/\(fy ⟨signsI.toArray⟩ p).1<128):=by unfold Hid;decide+kernel
 go_enter func284,ntmps284;go_wp2_with fail
 have m:(w.alloc (.stringIter ⟨signsI.toArray⟩ 0)).heap[w.heap.size]? =X (.stringIter ⟨signsI.toArray⟩ 0):=ex w _;have s:=Z m;have n:Hid (Bw w (w.alloc (.stringIter ⟨signsI.toArray⟩ 0))):=(es _ w).alloc (em _) _;clear m;go_loopw [5,6] (λ_a _b wr=>Hid (Bw w wr)/\∃a:Nat,a<=14/\Hid (wr.heap[w.heap.size]? =X (.stringIter ⟨signsI.toArray⟩ a))) (λ_ _ wr=>14 - wr.iterPos w.heap.size)
 case atStart=>exact ⟨n,0,by omega,s⟩
 case round=>
  obtain ⟨g,a,x,c⟩:=hrel;have l:wr.iterPos w.heap.size=a:=by simp [hY,c.o]
  have r:=Z l;clear l;by_cases hp:a<14
  · obtain ⟨i,t⟩:=q a hp;have j:∀b,(iP (e6 (X ⟨w.heap.size,0,Y⟩)) true b).run prog wr=_:=λb=>kc wr w.heap.size ⟨signsI.toArray⟩ a b c.o hp;have f:=Lib.iterAt_heap wr w.heap.size ⟨signsI.toArray⟩ a (a+(fy ⟨signsI.toArray⟩ a).2) c.o;have d:=Lib.below_iterAt g.o (k:=w.heap.size) (em _) ⟨signsI.toArray⟩ (a+(fy ⟨signsI.toArray⟩ a).2);rw [i] at j f d;generalize (wr.iterAt w.heap.size ⟨signsI.toArray⟩ (a+1))=W1 at *;generalize (fy ⟨signsI.toArray⟩ a).1=z at *;have y:¬((z:Int)=65533):=by omega
    have h:=Z f;have o:=Z d;clear f d i t;go_wp2_with fail
    go_roundw
    case rel=>exact ⟨o,a+1,by omega,h⟩
    case measure=>
     have u:W1.iterPos w.heap.size=a+1:=by simp [hY,h.o]
     rw [u,r.o];omega
  · have v:¬a<(⟨signsI.toArray⟩:ByteArray).size:=hp;have j:∀b,(iP (e6 (X ⟨w.heap.size,0,Y⟩)) true b).run prog wr=_:=λb=>kb wr w.heap.size ⟨signsI.toArray⟩ a b c.o v;go_wp2_with fail
    (try rw [gy])
    go_ret;exact ⟨rfl,g.o⟩
def partB (b:UInt8):Bool:=signsI.contains b
theorem yL:∀b:UInt8,partB b=true->b.toNat<128:=by
 intro b h;have:b∈signsI:=by simpa [partB] using h
 simp [signsI] at this;rcases this with rfl|rfl|rfl|rfl|rfl|rfl|rfl|rfl|rfl|rfl|rfl|rfl|rfl|rfl<;>decide
theorem qY (b:UInt8) (t:List UInt8) (h:128<=b.toNat):128<=(Lib.decodeL (b::t)).1:=by
 rw [Lib.decodeL_N];unfold Lib.decodeN;rw [j3,if_neg (by omega)];split
 · split
   · assumption
   · decide
 · split
   · split
     · rename_i a c;omega
     · decide
   · split
     · split
       · rename_i a c;omega
       · decide
     · decide
def iW (c:Nat):Bool:=decide (c<128)&&partB (fl c)
theorem vi (c:Nat) (b:c<=1114111) (w:e8):fs prog 234 #[J e5 c] w λe w'=>e=dx (dy (!iW c))/\Bw w w':=by
 have f:Hid (fs prog 235 #[S signsI,J e5 c] w λe w'=>e=dx (dy (iW c))/\Bw w w'):=by
  by_cases h:c<128
  · refine (strings_ContainsRune_ascii ⟨signsI.toArray⟩ c w (by omega) (by omega)).mono ?_;rintro e w' ⟨rfl,rfl⟩;refine ⟨ap ?_,es _ _⟩;unfold iW partB;rw [decide_eq_true h,Bool.true_and,Lib.contains_iff_indexByte];have:(c:Int).toNat.toUInt8=fl c:=by simp
    rw [this]
  · have g:Hid (fs prog 284 #[S signsI,J e5 c] w λe w'=>e=dx (J U (-1))/\Bw w w'):=by
     by_cases h2:c=65533
     · subst h2;exact mE w
     · exact vk c (by omega) b h2 w
    have d:iW c=false:=by unfold iW;rw [decide_eq_false h];rfl
    rw [d];clear h d;go_enter func235,ntmps235;go_wp2_with (go_at_call 284;((with_reducible refine eg g.o ?_);rintro e w1 ⟨rfl,a⟩))
    go_ret;exact ⟨rfl,a⟩
 generalize iW c=p at *;clear b;go_enter func234,ntmps234;go_wp2_with (go_at_call 235;((with_reducible refine eg f.o ?_);rintro e w1 ⟨rfl,a⟩))
 go_ret;exact ⟨rfl,a⟩
def partN (s:Bs):Nat:=(s.takeWhile partB).length
theorem wW (s:Bs):partN s<=s.length:=(List.takeWhile_prefix _).length_le
theorem wX (s:Bs):∀k,k<s.length->(∀j (h:j<s.length),j<k->partB s[j]=true)->(partB (s.getD k 0)=false->partN s=k)/\(partB (s.getD k 0)=true->k<partN s):=by
 induction s with
 |nil=>intro k a;simp at a
 |cons b s ih=>
  intro k a d;cases k with
  |zero=>
   simp only [j3];refine ⟨λh=>?_,λh=>?_⟩
   · unfold partN;rw [g0,h];rfl
   · unfold partN;rw [g0,h];simp
  |succ k=>
   have c:=d 0 (by simp) (by omega);simp only [List.getElem_cons_zero] at c;have:=ih k (by simpa using a) (λj h f=>by have:=d (j+1) (by simpa using h) (by omega);simpa using this);have e:partN (b::s)=partN s+1:=by unfold partN;rw [g0,c];simp
   rw [e,hX];exact ⟨λh=>by rw [this.1 h],λh=>by have:=this.2 h;omega⟩
theorem uQ (s:Bs) (h:∀j (h:j<s.length),partB s[j]=true):partN s=s.length:=by
 have:∀l:Bs,(∀b∈l,partB b=true)->l.takeWhile partB=l:=by
  intro l;induction l with
  |nil=>intro _;rfl
  |cons b l ih=> intro a;rw [g0,a b g3,if_pos rfl,ih λc f=>a c (gP _ f)]
 unfold partN;rw [this s (λb d=>by obtain ⟨j,g,e⟩:=List.getElem_of_mem d;rw [<- e];exact h j g)]
theorem sO (s:Bs) (w:e8) (M:s.length<=1000000000):fs prog 283 #[S s, .func (.func 234) #[] #[],dy true] w λe w'=>e=dx (J U (if partN s=s.length then -1 else (partN s:Int)))/\Bw w w':=by
 have a8:=Z M;obtain ⟨R,r⟩:=Qe ((if partN s=s.length then (-1:Int) else (partN s:Int)));rw [r];have y:=Z r;clear M r;go_enter func283,ntmps283;go_wp2_with fail
 have N:(w.alloc (.stringIter ⟨s.toArray⟩ 0)).heap[w.heap.size]? =X (.stringIter ⟨s.toArray⟩ 0):=ex w _;have a1:=Z N;have P:Hid (Bw w (w.alloc (.stringIter ⟨s.toArray⟩ 0))):=(es _ w).alloc (em _) _;clear N;go_loopw [7,8] (λ_a _b wr=>Hid (Bw w wr)/\∃a:Nat,a<=s.length/\Hid (wr.heap[w.heap.size]? =X (.stringIter ⟨s.toArray⟩ a))/\Hid (∀j (h:j<s.length),j<a->partB s[j]=true)) (λ_ _ wr=>s.length - wr.iterPos w.heap.size)
 case atStart=>exact ⟨P,0,by omega,a1,λj h t=>by omega⟩
 case round=>
  obtain ⟨u,a,a9,i,o⟩:=hrel;have L:wr.iterPos w.heap.size=a:=by simp [hY,i.o]
  have V:=Z L;clear L;by_cases hp:a<s.length
  · have a6:a<(⟨s.toArray⟩:ByteArray).size:=hp;have a5:∀b,(iP (e6 (X ⟨w.heap.size,0,Y⟩)) true b).run prog wr=_:=λb=>kc wr w.heap.size ⟨s.toArray⟩ a b i.o a6;have I:=Lib.iterAt_heap wr w.heap.size ⟨s.toArray⟩ a (a+(fy ⟨s.toArray⟩ a).2) i.o;have E:=Lib.below_iterAt u.o (k:=w.heap.size) (em _) ⟨s.toArray⟩ (a+(fy ⟨s.toArray⟩ a).2);have G:fy ⟨s.toArray⟩ a=Lib.decodeL (s[a]::s.drop (a+1)):=by rw [dT,hu hp]
    have F:(fy ⟨s.toArray⟩ a).1<=1114111:=by rw [dT];exact Lib.decodeL_rune _
    have q:=wX s a hp o.o;have H:s.getD a 0=s[a]:=by simp [ho,hp]
    rw [H] at q;have a4:(iW (fy ⟨s.toArray⟩ a).1=partB s[a])/\(partB s[a]=true->(fy ⟨s.toArray⟩ a).2=1):=by
     rw [G];by_cases h:s[a].toNat<128
     · rw [Lib.decodeL_ascii _ _ h];refine ⟨?_,λ_=>rfl⟩;unfold iW;rw [decide_eq_true h,Bool.true_and];simp
     · have A:=qY s[a] (s.drop (a+1)) (by omega);have d:partB s[a]=false:=by
        cases l:partB s[a]
        · rfl
        · exact absurd (yL _ l) h
       refine ⟨?_,λl=>by rw [d] at l;cases l⟩;rw [d];unfold iW;rw [decide_eq_false (by omega)];rfl
    obtain ⟨B,C⟩:=a4;have D:∀j (h:j<s.length),j<a+1->partB s[a]=true->partB s[j]=true:=λj h t A=>by
     rcases Nat.lt_or_ge j a with d|d
     · exact o j h d
     · have:j=a:=by omega
       subst this;exact A
    have W:=Z D;have O:=Z q;have n:=Z (vi _ F);rw [B] at n;generalize partB s[a]=pb at *;generalize hW1:(wr.iterAt w.heap.size ⟨s.toArray⟩ (a+(fy ⟨s.toArray⟩ a).2))=W1 at *;generalize hz:(fy ⟨s.toArray⟩ a).2=z at *;generalize (fy ⟨s.toArray⟩ a).1=c at *;have a3:=Z C;have T:=Z I;have g:=Z E;clear I E B C D q G F H hW1 hz;cases pb
    · have x:Hid (partN s=a):=O.1 rfl;have K:¬(partN s=s.length):=by rw [x.o];omega
      have p:Hid (R=a):=by unfold Hid;rw [<- y.o,if_neg K,x.o]
      clear K;go_wp2_with (go_at_call 234;((with_reducible refine eg (n.o _) ?_);rintro e m ⟨rfl,f⟩))
      go_ret;exact ⟨(by rw [p.o];rfl),btr g.o f g.o.size⟩
    · have a2:Hid (z=1):=a3 rfl;have a0:Hid (∀j (h:j<s.length),j<a+1->partB s[j]=true):=λj h t=>W j h t rfl;go_wp2_with (go_at_call 234;((with_reducible refine eg (n.o _) ?_);rintro e m ⟨rfl,f⟩))
      have Q:Hid (Bw w m):=btr g.o f g.size;have v:Hid (m.heap[w.heap.size]? =X (.stringIter ⟨s.toArray⟩ (a+1))):=by have:=T.o;rw [a2.o] at this;exact (f.block _ (Array.getElem?_eq_some_iff.1 this).1).trans this
      clear f;go_roundw
      case rel=>exact ⟨Q,a+1,by omega,v,a0⟩
      case measure=>
       have e1:m.iterPos w.heap.size=a+1:=by simp [hY,v.o]
       rw [e1,V.o];omega
  · have a7:¬a<(⟨s.toArray⟩:ByteArray).size:=hp;have a5:∀b,(iP (e6 (X ⟨w.heap.size,0,Y⟩)) true b).run prog wr=_:=λb=>kb wr w.heap.size ⟨s.toArray⟩ a b i.o a7;have p:Hid (R= -1):=by unfold Hid;rw [<- y.o,if_pos (uQ s (λj h=>o.o j h (by omega)))]
    go_wp2_with fail
    go_ret;exact ⟨(by rw [p.o];rfl),u.o⟩
theorem sP (s:Bs) (w:e8) (c:s.length<=1000000000):fs prog 233 #[S s, .func (.func 234) #[] #[]] w λe w'=>e=dx (J U (if partN s=s.length then -1 else (partN s:Int)))/\Bw w w':=by
 have a:=Z (sO s w c);generalize (if partN s=s.length then (-1:Int) else (partN s:Int))=r at *;go_enter func233,ntmps233;go_wp2_with (go_at_call 283;((with_reducible refine eg a.o ?_);rintro e w1 ⟨rfl,b⟩))
 go_ret;exact ⟨rfl,b⟩
theorem vj (s:Bs):isbnGo s=(s.takeWhile partB).filter λb=> !(decide (b=32)||decide (b=45)):=by
 induction s with
 |nil=>rfl
 |cons b s ih=>
  unfold isbnGo;have c:partB b=(digitB b||xB b||decide (b=32∨b=45)):=by
   have:∀n<256,partB (fl n)=(digitB (fl n)||xB (fl n)||decide (fl n=32∨fl n=45)):=by decide+kernel
   have:=this b.toNat b.toNat_lt;rwa [j4] at this
  have d:(digitB b||xB b)=true->(!(decide (b=32)||decide (b=45)))=true:=by
   have:∀n<256,(digitB (fl n)||xB (fl n))=true->(!(decide (fl n=32)||decide (fl n=45)))=true:=by decide+kernel
   have:=this b.toNat b.toNat_lt;rwa [j4] at this
  rw [g0,c];by_cases h1:(digitB b||xB b)=true
  · rw [if_pos h1,h1,Bool.true_or,if_pos rfl,gi,d h1,if_pos rfl,ih]
  · rw [if_neg h1];have a:(digitB b||xB b)=false:=by simpa using h1
    rw [a,Bool.false_or];by_cases h2:b=32∨b=45
    · rw [if_pos h2,decide_eq_true h2,if_pos rfl,gi,ih];have:(!(decide (b=32)||decide (b=45)))=false:=by rcases h2 with rfl|rfl<;>rfl
      rw [this];rfl
    · rw [if_neg h2,decide_eq_false h2];rfl
theorem jZ (w:e8):(callFunc 352 #[]).run prog w= .ok (.value (.tuple #[])) w:=run_call_mark0 func352 (by kernel_rfl) (by kernel_rfl) (by kernel_rfl) .disable (by kernel_rfl) w
theorem lI (w:e8):(callFunc 354 #[]).run prog w= .ok (.value (.tuple #[])) w:=run_call_mark0 func354 (by kernel_rfl) (by kernel_rfl) (by kernel_rfl) .enable (by kernel_rfl) w
theorem rG (a:Addr) (w:e8):(callFunc 355 #[e6 (X a)]).run prog w= .ok (.value (.tuple #[])) w:=run_call_marked func355 (by kernel_rfl) (by kernel_rfl) (by kernel_rfl) .acquire (by kernel_rfl) a w
theorem p9 (a:Addr) (w:e8):(callFunc 357 #[e6 (X a)]).run prog w= .ok (.value (.tuple #[])) w:=run_call_marked func357 (by kernel_rfl) (by kernel_rfl) (by kernel_rfl) .releaseMerge (by kernel_rfl) a w
theorem ux (a:Addr) (x:gb) (u:FrameMode) (w:e8) (f:w.cell? a=X x) (h:w.frozen? a=false):
 CallsD prog 337 #[e6 (X a),dy true] u w λe d w'=>d=u/\(e=dx (.tuple #[])/\w'=w.drew.setCell a (J .u32 1)):=by
 have b:w.drew.cell? a=X x:=by go_simp
 have c:w.drew.frozen? a=false:=by go_simp
 have g:=run_call_store (P:=prog) func347 (by kernel_rfl) (by kernel_rfl) (by kernel_rfl) (by kernel_rfl) (k:= .u32) (y:=1) b c;go_enter_d func337,ntmps337
 go_wp2;go_region_calls
 all_goals (go_end0;exact ⟨rfl,rfl⟩)
theorem rQ (a:Addr) (u:FrameMode) (w:e8) (b:w.cell? a=X (J e5 1)) (c:w.frozen? a=false):
 CallsD prog 336 #[e6 (X a)] u w λe d w'=>d=u/\(e=dx (.tuple #[])/\w'=w.setCell a (J e5 0)):=by
 have h:=jZ;have i:=lI;have j:=p9;have f:=run_call_add (P:=prog) func358 (by kernel_rfl) (by kernel_rfl) (by kernel_rfl) e5 (by kernel_rfl) (y:= -1) (s:=0) b c (by simp [go_sem];rfl);have g:=run_convert_to_unsafe (P:=prog) (src:=427) (dst:=282) underlying427 underlying282 (by kernel_rfl) b;go_enter_d func336,ntmps336
 go_wp2;go_end0
 go_wp2;all_goals (go_end0;exact ⟨rfl,rfl⟩)
theorem xo (a:Addr) (w:e8) (b:w.cell? a=X (J e5 0)) (d:w.frozen? a=false):
 fs prog 335 #[e6 (X a)] w λe w'=>e=dx (.tuple #[])/\w'=w.setCell a (J e5 1):=by
 have i:=jZ;have j:=lI;have f:=rG;have g:=run_call_cas_hit (P:=prog) func353 (by kernel_rfl) (by kernel_rfl) (by kernel_rfl) e5 (by kernel_rfl) (y:=1) b d;have c:(w.setCell a (J e5 1)).cell? a=X (J e5 1):=World.cell?_setCell_same w a _ b;have h:=run_convert_to_unsafe (P:=prog) (src:=427) (dst:=282) underlying427 underlying282 (by kernel_rfl) c;go_enter func335,ntmps335;go_wp2;first |go_end0|(simp only [Exit.inBlock,Exit.then];refine ha (results_none rfl _ _ _) rfl ?_)|refine ha (results_none rfl _ _ _) rfl ?_
 go_wp2;all_goals (go_end0;exact ⟨rfl,rfl⟩)
theorem qw (a:Addr) (d:Int) (b:Bool) (f:(d !=0)=b) (w:e8) (c:w.cell? a=X (J .u32 d)):fs prog 320 #[e6 (X a)] w λe w'=>e=dx (dy b)/\w'=w:=by
 have g:=run_call_load (P:=prog) func334 (by kernel_rfl) (by kernel_rfl) (by kernel_rfl) .u32 (by kernel_rfl) c;subst f;go_enter func320,ntmps320;go_wp2;go_ret;exact ⟨rfl,rfl⟩
theorem vF (s:Bs) (c:UInt8) (w:e8):fs prog 396 #[S s,S [c]] w λe w'=>e=dx (J U (s.count c))/\w'=w:=by
 have a:(c.toNat:Int).toNat.toUInt8=c:=by simp
 have b:∀W,(callFunc 398 #[S s,J dz c.toNat]).run prog W= .ok (.value (J U (s.count c))) W:=λW=>by rw [run_callFunc_extern func398 (by kernel_rfl) (by kernel_rfl) (by kernel_rfl) (e:=Extern.BytealgCount.count) (by kernel_rfl),Lib.run_countString,a];rfl
 go_enter func396,ntmps396;go_wp2;go_ret;exact ⟨rfl,rfl⟩
def jS (R:Nat) (v x:gb) (a:e8->Prop) (S:e8->e8->Prop):Prop:=
 ∀w:e8,a w->w.heap[R]? =X (e7 #[J .u32 0,J e5 1,J .u32 0, .nilIface,v] 355 (0,0))->fs prog 289 #[e6 (X ⟨R,0,Y⟩)] w λe w'=>e=dx (.tuple #[])/\w'.heap[R]? =X (e7 #[J .u32 0,J e5 1,J .u32 0,x,cs Y 0 0] 355 (0,0))/\S w w'
theorem wG (R:Nat) (v x:gb) (i:e8->Prop) (S:e8->e8->Prop) (j:jS R v x i S) (w:e8) (k:∀w',ar R w w'->i w') (h:w.heap[R]? =X (e7 #[J .u32 0,J e5 0,J .u32 0, .nilIface,v] 355 (0,0))):
 fs prog 321 #[e6 (X ⟨R,0,Y⟩), .func (.func 289) #[e6 (X ⟨R,0,Y⟩)] #[]] w λe w'=>e=dx (.tuple #[])/\∃w1 l:e8,ar R w w1/\S w1 l/\ar R l w'/\w'.heap[R]? =X (e7 #[J .u32 1,J e5 0,J .u32 0,x,cs Y 0 0] 355 (0,0)):=by
 have c:(w.setCell ⟨R,1,Y⟩ (J e5 1)).heap[R]? =X (e7 #[J .u32 0,J e5 1,J .u32 0, .nilIface,v] 355 (0,0)):=am h 1 (J e5 1);have d:ar R w (w.setCell ⟨R,1,Y⟩ (J e5 1)):=(ar.refl R w).setCell 1 _;have o:=Z (xo ⟨R,1,Y⟩ w ((aa h 1).trans rfl) (ab h 1));have m:=Z (j _ (k _ d) c);have p:=Z (qw ⟨R,0,Y⟩ 0 false rfl _ ((aa c 0).trans rfl));have z:∀(x:Bool) (w:e8),(Op.unary .not (dy x)).run prog w= .ok (dy (!x)) w:=λ_ _=>rfl;have n:=Z d;clear c d h j k;generalize w.setCell ⟨R,1,Y⟩ (J e5 1)=W1 at *;go_enter_defers func321,ntmps321
 go_wp2_with (first |(go_at_call 335;refine eg o.o ?_;rintro e w' ⟨rfl,rfl⟩)|(go_at_call 320;refine eg p.o ?_;rintro e w' ⟨rfl,rfl⟩)|(go_at_call 289;refine eg m.o ?_;rintro e a ⟨rfl,b,s⟩))
 have y:=Z b;refine leaves_cons (f:=337) (args:= #[e6 (X ⟨R,0,Y⟩),dy true]) (by simp) (by simp [go_sem]) ?_;refine (ux ⟨R,0,Y⟩ (J .u32 0) .returning _ ((aa b 0).trans rfl) (ab b 0)).mono ?_;rintro e t u ⟨rfl,rfl,rfl⟩;have g:(a.drew.setCell ⟨R,0,Y⟩ (J .u32 1)).heap[R]? =X (e7 #[J .u32 1,J e5 1,J .u32 0,x,cs Y 0 0] 355 (0,0)):=am (w:=a.drew) b 0 (J .u32 1);refine leaves_cons (f:=336) (args:= #[e6 (X ⟨R,1,Y⟩)]) (by simp [settle]) (by simp [go_sem]) ?_;refine (rQ ⟨R,1,Y⟩ _ _ ((aa g 1).trans rfl) (ab g 1)).mono ?_;rintro e t u ⟨rfl,rfl,rfl⟩;have r:=am g 1 (J e5 0);have q:ar R a ((a.drew.setCell ⟨R,0,Y⟩ (J .u32 1)).setCell ⟨R,1,Y⟩ (J e5 0)):=(((ar.refl R a).drew).setCell 0 _).setCell 1 _;simp [Leaves,settle,results,Tryz.results321];exact ⟨_,n.o,_,s,q,r⟩
theorem AO (R:Nat) (v x:gb) (a:e8->Prop) (S:e8->e8->Prop) (b:jS R v x a S) (w:e8) (c:∀w',ar R w w'->a w') (h:w.heap[R]? =X (e7 #[J .u32 0,J e5 0,J .u32 0, .nilIface,v] 355 (0,0))):
 fs prog 288 #[e6 (X ⟨R,0,Y⟩), .func (.func 289) #[e6 (X ⟨R,0,Y⟩)] #[]] w λe w'=>e=dx (.tuple #[])/\∃w1 d:e8,ar R w w1/\S w1 d/\ar R d w'/\w'.heap[R]? =X (e7 #[J .u32 1,J e5 0,J .u32 0,x,cs Y 0 0] 355 (0,0)):=by
 have g:=Z (qw ⟨R,0,Y⟩ 0 false rfl _ ((aa h 0).trans rfl));have f:=Z (wG R v x a S b w c h);have k:∀(x:Bool) (w:e8),(Op.unary .not (dy x)).run prog w= .ok (dy (!x)) w:=λ_ _=>rfl;clear h b c;go_enter func288,ntmps288;go_wp2_with (first |(go_at_call 320;refine eg g.o ?_;rintro e w' ⟨rfl,rfl⟩)|(go_at_call 321;refine eg f.o ?_;rintro e j ⟨rfl,i⟩))
 go_end0
 exact ⟨rfl,i⟩
theorem dS {c:UInt8} (h:digitB c=true):48<=c.toNat/\c.toNat<=57:=by
 unfold digitB at h;simp only [Bool.and_eq_true,decide_eq_true_eq] at h;exact h
theorem nw (s:Bs) (w:e8) (B:12<=s.length) (hs:s.length<=1000) (a:(s.take 12).all digitB=true):fs prog 240 #[S s] w λe w'=>e=dx (J dz (checkR s).toNat)/\Bw w w':=by
 obtain ⟨t,f⟩:=Qe (s.take 12);have m:t.length=12:=by rw [<- f];simp;omega
 have v:Hid (checkR s=fl (48+(10 - checkGo 0 t%10)%10)):=by unfold Hid;rw [<- f];rfl
 rw [f] at a;obtain ⟨H,w1,P,n,N,M,d,A⟩:=lU t w;have G:=Z n;have o:=Z d;have p:Hid (∀k (h:k<t.length),digitB t[k]=true):=λk h=>by rw [hK] at a;exact a _ (g7 h)
 have g:Hid (∀k,checkGo 0 (t.take k)<=765 * 12):=λk=>by
  have:=sY (t.take k) 0 (λc d=>by
   have l:digitB c=true:=by rw [hK] at a;exact a _ (jb d)
   have z:=dS l;unfold valB;omega)
  have L:(t.take k).length<=12:=by rw [e9];omega
  omega
 have a1:(12:Int)<=(s.length:Int):=by omega
 have F:=Z m;have a2:t.length<=12:=by omega
 have b:((s.take 12).length:Int)=t.length:=by rw [f]
 clear n d A a B m;go_enter func240,ntmps240;go_wp2_with fail
 go_loop [3,4,5,10] (λE _a _c i=>∃(k:Nat),k<=t.length/\i=J U k/\E=J U (checkGo 0 (t.take k):Nat)) (λ_ _ _ i=>t.length - (intOf i).toNat)
 case atStart=>exact ⟨0,gp _,rfl,rfl⟩
 case round=>
  obtain ⟨k,Q,rfl,rfl⟩:=hrel;by_cases b:k<t.length
  · have C:=g k;have O:=o k b;obtain ⟨l,z⟩:=dS (p k b);have j:Hid (checkGo 0 (t.take (k+1))=checkGo 0 (t.take k)+(t[k].toNat - 48) * (1+2 * (k%2))):=by unfold Hid;rw [o8 t k b,ht];simp [valB,ho,iQ b]
    generalize checkGo 0 (t.take k)=q at *;have T:((k:Int)%2)=((k%2:Nat):Int):=by omega
    have V:(Int.tmod (k:Int) 2)=((k%2:Nat):Int):=by rw [gn (by omega)];omega
    have R:k%2<2:=Nat.mod_lt _ (by omega);generalize k%2=r at *;have D:r=0∨r=1:=by omega
    rcases D with rfl|rfl
    · go_wp2_with fail
      go_round
      case rel=>exact ⟨k+1,by omega,by go_num,by rw [j.o];go_num⟩
      case measure=>simp [intOf];omega
    · go_wp2_with fail
      go_round
      case rel=>exact ⟨k+1,by omega,by go_num,by rw [j.o];go_num⟩
      case measure=>simp [intOf];omega
  · have C:=g k;have u:Hid (checkGo 0 (t.take k)=checkGo 0 t):=by unfold Hid;rw [gd (by omega)]
    have I:Int.tmod ((checkGo 0 (t.take k):Nat):Int) 10=((checkGo 0 (t.take k)%10:Nat):Int):=by rw [gn (by omega)];omega
    generalize checkGo 0 (t.take k)=q at *;have W:q%10<10:=Nat.mod_lt _ (by omega);generalize hqq:q%10=r at *;have K:Int.tmod (10 - (r:Int)) 10=(((10 - r)%10:Nat):Int):=by rw [gn (by omega)];omega
    have a0:(10 - r)%10<10:=Nat.mod_lt _ (by omega);rw [u.o] at hqq;have y:Hid (checkR s=fl (48+(10 - r)%10)):=by unfold Hid;rw [v.o,hqq]
    generalize (10 - r)%10=x at *;go_wp2_with fail
    go_ret;refine ⟨?_, ‹iN _ _ _›⟩;rw [y.o];simp;omega
theorem pI (s:Bs) (b:Nat) (a:b<s.length) (k:Nat):tenSum k (s.take (b+1))=tenSum k (s.take b)+(10 - (k+b)) * (if s.getD b 0=88 then 10 else valB (s.getD b 0)):=by
 induction s generalizing b k with
 |nil=>simp at a
 |cons c l ih=>
  cases b with
  |zero=>simp [tenSum]
  |succ b=>
   have d:b<l.length:=by simpa using a
   have h:=ih b d (k+1);simp only [hW,tenSum,hX];rw [h,show k+1+b=k+(b+1) by omega];omega
theorem us (s:Bs) (k:Nat) (h:∀c∈s,digitB c=true∨c=88):tenSum k s<=100 * s.length:=by
 induction s generalizing k with
 |nil=>simp [tenSum]
 |cons c l ih=>
  have e:=ih (k+1) λx d=>h x (gP _ d);have a:=h c g3;simp only [tenSum,eQ];have b:(if c=88 then 10 else valB c)<=10:=by
   split
   · omega
   · rcases a with a|a
     · have:=dS a;unfold valB;omega
     · contradiction
  have f:(10 - k) * (if c=88 then 10 else valB c)<=10 * 10:=hF (by omega) b;omega
theorem lg (s:Bs) (w:e8) (z:s.length=10) (f:∀c∈s,digitB c=true∨c=88):fs prog 239 #[S s] w λe w'=>e=dx (dy (decide (tenSum 0 s%11=0)&&(s.take 9).all digitB))/\Bw w w':=by
 obtain ⟨F,w1,O,l,M,L,b,y⟩:=lU s w;have E:=Z l;have n:=Z b;have o:Hid (∀k (h:k<s.length),digitB s[k]=true∨s[k]=88):=λk h=>f _ (g7 h);have g:Hid (∀k,tenSum 0 (s.take k)<=1000):=λk=>by
  have:=us (s.take k) 0 (λc b=>f c (jb b));have K:(s.take k).length<=10:=by rw [e9];omega
  omega
 have Q:s.length<=10:=by omega
 have R:10<=s.length:=by omega
 have d:∀W,fs prog 230 #[S (s.take 9)] W λe w'=>e=dx (dy ((s.take 9).all digitB))/\Bw W w':=λW=>dH _ W (by rw [e9];omega);have d:=Z d;clear l b y f z;go_enter func239,ntmps239;go_wp2_with fail
 go_loop [3,4,5,6,10] (λD _a _c _n i=>∃(k:Nat),k<=s.length/\i=J U k/\D=J U (tenSum 0 (s.take k):Nat)) (λ_ _ _ _ i=>s.length - (intOf i).toNat)
 case atStart=>exact ⟨0,gp _,rfl,rfl⟩
 case round=>
  obtain ⟨k,P,rfl,rfl⟩:=hrel;by_cases hlt:k<s.length
  · have A:=g k;have N:=n k hlt;have a:Hid (tenSum 0 (s.take (k+1))=tenSum 0 (s.take k)+(10 - k) * (if s[k]=88 then 10 else s[k].toNat - 48)):=by unfold Hid;rw [pI s k hlt,ht];simp [valB,ho,iQ hlt]
    generalize tenSum 0 (s.take k)=q at *;have x:=o k hlt;generalize s[k]=c at *;by_cases hx:c=88
    · subst hx;rw [if_pos rfl] at a;have C:(10 - (k:Int)) * 10=(((10 - k) * 10:Nat):Int):=by omega
      generalize (10 - k) * 10=m at *;have B:m<=100:=by omega
      go_wp2_with fail
      go_round
      case rel=>exact ⟨k+1,by omega,by go_num,by rw [a.o];go_num⟩
      case measure=>simp [intOf];omega
    · rw [if_neg hx] at a;obtain ⟨H,I⟩:=dS (x.resolve_right hx);have V:¬((c.toNat:Int)=88):=by omega
      have a0:((c.toNat:Int)==88)=false:=by simp;omega
      have C:(10 - (k:Int)) * ((c.toNat:Int) - 48)=(((10 - k) * (c.toNat - 48):Nat):Int):=by
       have t:((10 - k:Nat):Int)=10 - (k:Int):=by omega
       have u:((c.toNat - 48:Nat):Int)=(c.toNat:Int) - 48:=by omega
       rw [Int.natCast_mul,t,u]
      have B:(10 - k) * (c.toNat - 48)<=10 * 9:=hF (by omega) (by omega);generalize (10 - k) * (c.toNat - 48)=m at *;go_wp2_with fail
      go_round
      case rel=>exact ⟨k+1,by omega,by go_num,by rw [a.o];go_num⟩
      case measure=>simp [intOf];omega
  · have A:=g k;have p:Hid (tenSum 0 (s.take k)=tenSum 0 s):=by unfold Hid;rw [gd (by omega)]
    have G:Int.tmod ((tenSum 0 (s.take k):Nat):Int) 11=((tenSum 0 (s.take k)%11:Nat):Int):=by rw [gn (by omega)];omega
    have j:Hid (tenSum 0 (s.take k)%11=tenSum 0 s%11):=by unfold Hid;rw [p.o]
    generalize tenSum 0 (s.take k)%11=r at *;by_cases hr:r=0
    · subst hr;go_wp2_with (go_at_call 230;((with_reducible refine eg (d.o _) ?_);rintro e w2 ⟨rfl,v⟩))
      go_ret;refine ⟨by rw [<- j.o];simp,(‹Bw w w1›).trans (v.mono (‹Bw w w1›).size)⟩
    · have T:((r:Int)==0)=false:=by simp;omega
      go_wp2_with fail
      go_ret;exact ⟨by rw [<- j.o];simp [hr], ‹iN _ _ _›⟩
def foldN (l:Bs):Int:=l.foldl (λn c=>10 * n+((c.toNat:Int) - 48)) 0
theorem lF (l:Bs) (k:Nat) (h:k<l.length):foldN (l.take (k+1))=10 * foldN (l.take k)+((l[k].toNat:Int) - 48):=by
 unfold foldN;rw [g4 h,List.foldl_append];rfl
theorem qS (l:Bs) (h:∀c∈l,digitB c=true):∀k,k<=l.length->0<=foldN (l.take k)/\foldN (l.take k)<10^k:=by
 intro k;induction k with
 |zero=>intro _;simp [foldN]
 |succ k ih=>
  intro d;have a:=ih (by omega);have b:=dS (h _ (g7 (show k<l.length by omega)));rw [lF l k (by omega)];have:(10:Int)^(k+1)=10 * 10^k:=by rw [Int.pow_succ,Int.mul_comm]
  omega
theorem sr (s:Bs) (w:e8) (N:s.length<=1000000):fs prog 232 #[S s] w λe w'=>e=dx (J U (aN s))/\Bw w w':=by
 by_cases hl:s.length=4
 · have H:=Z (λW=>nM ⟨s.toArray⟩ W (by show s.length<=_;omega));have b:=Z (kM s);change Hid (∀W,fs prog 204 #[S s, .string ⟨#[48,49,50,51,52,53,54,55,56,57]⟩] W λe w'=>e=dx (S (jn s iy))/\Bw W w') at H;generalize jn s iy=t at *;have g:((s.length:Int)==4)=true:=by simp;omega
   have j:((s.length:Int)!=4)=false:=by simp;omega
   by_cases hd:s.all digitB=true
   · have A:t=[]:=b.2 hd;subst A;have a:Hid (aN s=foldN s):=by unfold Hid aN;rw [if_pos ⟨hl,hd⟩];rfl
     have p:Hid (∀k,(h:k<s.length)->digitB s[k]=true):=λk h=>by rw [hK] at hd;exact hd _ (g7 h)
     have u:Hid (∀k,k<=s.length->0<=foldN (s.take k)/\foldN (s.take k)<10^k):=qS s (λc f=>by rw [hK] at hd;exact hd c f);have K:s.length<=4:=by omega
     clear hd hl b;go_enter func232,ntmps232;go_wp2_with (go_at_call 204;((with_reducible refine eg (H.o _) ?_);rintro e n ⟨rfl,d⟩;obtain ⟨E,w1,I,m,F,x,f,y⟩:=lU s n;have D:=Z m;have o:=Z f;clear m f y))
     go_loop [3,5,17] (λC _c i=>∃(k:Nat),k<=s.length/\i=J U k/\C=J U (foldN (s.take k))) (λ_ _ i=>s.length - (intOf i).toNat)
     case atStart=>exact ⟨0,gp _,rfl,rfl⟩
     case round=>
      obtain ⟨k,z,rfl,rfl⟩:=hrel;obtain ⟨L,l⟩:=u k z;have M:foldN (s.take k)<10000:=Int.lt_of_lt_of_le l (by
       have:(10:Nat)^k<=10^4:=Nat.pow_le_pow_right (by omega) (by omega);have v:(((10:Nat)^k:Nat):Int)<=((10^4:Nat):Int):=by exact_mod_cast this
       simpa using v)
      clear l;by_cases hlt:k<s.length
      · have G:=o k hlt;obtain ⟨g,j⟩:=dS (p k hlt);have b:=Z (lF s k hlt);generalize foldN (s.take k)=q at *;go_wp2_with fail
        go_round
        case rel=>exact ⟨k+1,by omega,by go_num,by rw [b.o]⟩
        case measure=>simp [intOf];omega
      · have r:Hid (foldN (s.take k)=foldN s):=by unfold Hid;rw [gd (by omega)]
        generalize foldN (s.take k)=q at *;go_wp2_with fail
        go_ret;refine ⟨aH ?_,d.trans (x.mono d.size)⟩;rw [a.o,r.o]
   · have a:Hid (aN s= -1):=by unfold Hid aN;rw [if_neg (λh=>hd h.2)]
     have B:¬t=[]:=λh=>hd (b.1 h);clear hl hd;have O:(t==[])=false:=by simpa using B
     go_enter func232,ntmps232;go_wp2_with (go_at_call 204;((with_reducible refine eg (H.o _) ?_);rintro e n ⟨rfl,d⟩))
     go_ret;exact ⟨aH a.symm,d⟩
 · have a:Hid (aN s= -1):=by unfold Hid aN;rw [if_neg (λh=>hl h.1)]
   have g:((s.length:Int)==4)=false:=by simp;omega
   have j:((s.length:Int)!=4)=true:=by simp;omega
   go_enter func232,ntmps232;go_wp2_with fail
   go_ret;exact ⟨aH a.symm,es _ _⟩
attribute [local go_sem] Oper.semAt_some
theorem KeepsOthers.of_below {W a:e8} (h:Bw W a):KeepsOthers W a:=
 ⟨h.size,λk _ b _=>(h.block k (ae b)).trans b⟩
theorem mj.of_below {M:Nat->Prop} {W a:e8} (h:Bw W a) (b:∀k,M k->k<W.heap.size):mj M W a:=λk c=>h.block k (b k c)
theorem cV.of_below {B:Nat} {M:Nat->Prop} {W b:e8} (h:Bw W b) (c:∀k,M k->k<W.heap.size):cV B M W M b:=
 ⟨h.os,h.tape,h.output,h.size,λk a _ _=>h.block k a,λ_ h=> .inl h,λk a=>Nat.lt_of_lt_of_le (c k a) h.size⟩
theorem ip:∀w:Bs,(h:w≠[])->stripR w=(w.take (w.length - 1)).dropWhile (· ==48)++w.drop (w.length - 1)
 |[],h=>absurd rfl h
 |[c],_=>by simp [stripR]
 |c::d::l,_=>by
  have ih:=ip (d::l) (by simp)
  unfold stripR
  have a:(c::d::l).length - 1=((d::l).length - 1)+1:=by simp
  rw [a,hW,List.drop_succ_cons,List.dropWhile_cons]
  by_cases h:c=48
  · rw [if_pos h,if_pos (by simp [h]),ih]
  · rw [if_neg h,if_neg (by simp [h])]
    rw [List.cons_append,i1]
theorem mX (w:Bs):(stripR w).length<=w.length:=by
 by_cases h:w=[]
 · subst h;simp [stripR]
 · rw [ip w h,er,fr];have:=List.Sublist.length_le (List.dropWhile_sublist (λx:UInt8=>x==48) (l:=w.take (w.length - 1)));rw [e9] at this;omega
theorem xi (w:Bs):(fa w).length<=w.length+2:=by
 unfold fa;split
 · have:=mX w;simp only [eQ];omega
 · omega
theorem gV:∀l:List Bs,(dw l).length<=(l.map λs=>s.length+1).sum
 |[]=>by simp [dw]
 |[a]=>by simp [dw]
 |a::b::l=>by
  have:=gV (b::l)
  unfold dw
  simp only [er,gz,g2,eQ,he] at *
  omega
theorem pw (a:List Nat) (l:Bs):((bg a l).map hH).sum<=l.length+4 * a.length:=by
 induction a generalizing l with
 |nil=>unfold bg;split<;>simp
 |cons c a ih=>
  have b:=nl c;unfold bg;split
  · split
    · have:=ih [];simp only [eQ,he] at *;omega
    · have:=ih [];simp only [eQ,he,gz,g2] at *;omega
  · have:=ih (l++bx c);simp only [eQ,er] at *;omega
theorem jo (s:Bs):((bd s).map hH).sum<=4 * s.length:=by
 have a:=pw (runesR s) [];have b:=kY s;unfold bd;simp only [he] at a;omega
theorem pM (l:List Bs) (c:Nat):(l.map λs=>s.length+c).sum=(l.map hH).sum+c * l.length:=by
 induction l with
 |nil=>simp
 |cons a l ih=>simp only [gz,g2,eQ,ih,Nat.mul_add];omega
theorem lu (l:List Bs):(dw (l.map fa)).length<=(l.map hH).sum+3 * l.length:=by
 refine fz (gV _) ?_;rw [List.map_map, <- pM];induction l with
 |nil=>simp
 |cons a l ih=> have:=xi a;simp only [gz,g2,Function.comp] at *;omega
theorem kL (s x:Bs) (h:x∈bd s):x.length<=4 * s.length:=by
 have b:=jo s;have:∀l:List Bs,x∈l->x.length<=(l.map hH).sum:=by
  intro l;induction l with
  |nil=>intro h;cases h
  |cons a l ih=>
   intro h;simp only [gz,g2];rcases List.mem_cons.1 h with rfl|h
   · omega
   · have:=ih h;omega
 exact fz (this _ h) b
theorem lc {w:e8} {B e k n:Nat} {v:gb} {a:List gb} (h:w.ownsRow B e k v n a):w.drew.ownsRow B e k v n a:=h
theorem yh {w:e8} {B t:Nat} {v:gb} (h:Boxed w B t v):Boxed w.drew B t v:=h
theorem fZ.at {w W b:e8} {a:Nat} {M:Nat->Prop} {c:List Bs} (h:fZ w a M c W) (d:Bw W b):fZ w a M c b:=
 fZ.stable w a w.heap.size (em _) M c W M b h (cV.of_below d λk e=>(h.lt k e).1)
theorem vM (w:e8) (o:Obj) (x:gb) (t:TypeId):∀j u,[x][j]? =X u->((w.alloc o).alloc (e7 #[x] t)).drew.cell? ((⟨w.heap.size+1,0,Y⟩:Addr).add j)=X u:=by
 have h:=cell_one_new (w.alloc o) x t;rw [fx] at h;exact h
theorem xZ {W b:e8} (a:Bw W b) (o c:Obj):Bw W ((b.alloc o).alloc c).drew:=
 Below.drew ((a.alloc a.size _).alloc (by have:=a.size;simp;omega) _)
theorem nu {w W i w1:e8} {a:Nat} {M:Nat->Prop} {f:List Bs} {z:Bs} {v c:gb} (h:fZ w a M f W) (m:Bw W i) (I:w.heap.size<=a)
 (F:Boxed i a 81 v) (u:i.ownsRow w.heap.size 9 1 v f.length (f.map λs=>S s)) (D:∀g,v.ownBlock=X g->¬M g)
 (E:w1.ownsRow w.heap.size 9 1 c (f.length+1) ((f.map λs=>S s)++[S z])) (l:i.grownBy w1 v.ownBlock) (N:c.ownBlock=v.ownBlock∨c.ownBlock=X i.heap.size):
 Boxed w1 a 81 v/\KeepsOthers W (w1.setCell ⟨a,0,Y⟩ c)/\mj M W (w1.setCell ⟨a,0,Y⟩ c)/\fZ w a M (f++[z]) (w1.setCell ⟨a,0,Y⟩ c):=by
 have G:=h.b.size;have y:=m.size;have n:=h.lt;have A:=h.box;have x:Boxed w1 a 81 v:=F.kept l (F.not_row (by decide) u);have K:Bw w (w1.setCell ⟨a,0,Y⟩ c):=h.b.trans (((m.mono G).grown l (fz G y) λj t=>(u.lt j t).1).setCell (p:=⟨a,0,Y⟩) I c);refine ⟨x,((KeepsOthers.of_below m).trans (KeepsOthers.of_grownBy l λj o t B=>?_)).trans (KeepsOthers.setCell _ _ _),λk d=>?_,⟨⟨_,x.set c,?_,λq r C=>?_⟩,K,λk d=>⟨?_,(n k d).2⟩,A⟩⟩
 · obtain ⟨O,L⟩:=aD u t;rw [L] at B;cases B;rfl
 · have H:=(n k d).1;rw [g1 _ _ _ _ (λ(e:k=a)=>A (e ▸ d)),l.block k (by omega) (λe=>D k e.symm d)];exact m.block k H
 · rw [er,gx];exact E.kept (grownBy_setCell' w1 a c) (.inr (x.not_row (by decide) E).symm)
 · rcases N with e|e
   · exact D q (e ▸ r) C
   · rw [e] at r;injection r with r
     have:=(n q C).1;omega
 · refine Nat.lt_of_lt_of_le (n k d).1 (fz y ?_);rw [World.size_setCell];exact l.size
theorem wF (s:Bs) (skip:Nat) (hs:s.length<=1000000) (E:skip<=1000) (w:e8):fs prog 231 #[S s,J U skip] w λe w'=>e=dx (S (fT s skip))/\Bw w w':=by
 obtain ⟨t,N⟩:=Qe (s.drop skip);have b6:t.length<=1000000:=by rw [<- N,fr];omega
 have C:Hid (fT s skip=dw ((bd t).map fa)):=by unfold Hid fT;rw [N]
 have c2:max (skip:Int) 0=skip:=by omega
 have b3:min (skip:Int) (s.length:Int)=((min skip s.length:Nat):Int):=by omega
 have c0:min skip s.length<=s.length:=Nat.min_le_right _ _;have bA:s.drop (min skip s.length)=t:=by
  rw [<- N];rcases Nat.le_total skip s.length with h|h
  · rw [Nat.min_eq_left h]
  · rw [Nat.min_eq_right h,gt h,List.drop_length]
 generalize min skip s.length=m at *;have bb:=Z b3;have b7:(w.alloc (e7 #[cs Y 0 0] 81)).heap.size=w.heap.size+1:=by simp
 refine (callsIn_wide (n:=10)).1 ?_;refine callsIn_of_wp_marks func231 rfl trivial ?_ rfl;simp only [ntmps231,List.size_toArray,eQ,he,Nat.reduceAdd,Nat.reduceSub,Array.replicate_succ,Array.replicate_zero,List.push_toArray,List.append_toArray,it,List.cons_append];gi_wp2_with (refine ⟨trivial,?_⟩;gi_at_call 185;refine (callsIn_wide.2 (jp t _)).mono ?_;rintro e w1 ⟨rfl,rfl⟩)
 have b5:=jq 9 (by omega) (w.heap.size+1) t b6 ((w.alloc (e7 #[cs Y 0 0] 81)).alloc (e7 #[S t] 9)) (by rw [<- b7,hP];rfl);have bO:Boxed ((w.alloc (e7 #[cs Y 0 0] 81)).alloc (e7 #[S t] 9)) w.heap.size 81 (cs Y 0 0):=(Boxed.new w 81 (cs Y 0 0)).alloc _;have a5:Bw w ((w.alloc (e7 #[cs Y 0 0] 81)).alloc (e7 #[S t] 9)):=((es _ w).alloc (em _) _).alloc (by simp) _;generalize hW0:(w.alloc (e7 #[cs Y 0 0] 81)).alloc (e7 #[S t] 9)=W0 at *;have bk:W0.heap.size=w.heap.size+2:=by rw [<- hW0];simp
 refine kK rfl (by decide) (gf:=247) (lb:= #[e6 (X ⟨w.heap.size+1,0,Y⟩)]) ?hg trivial (enters_of func247 (by kernel_rfl) rfl) b5 (λk E=>E.elim) (es _ _) (λ_=>rfl)
  (λM j W=>fZ w w.heap.size M (j.map fa) W) (λ_ _ _ _=>False) (λM s ac M' aC h N=>fZ.stable w _ _ a5.size M (s.map fa) ac M' aC h N) (λ_ _ _ _ _ _ h _=>h) (λM s ac h k E=>(h.lt k E).1) (λ_ _ _ _ h=>h.elim)
  ⟨⟨_,bO,h7 _ _ _ _,λg hg=>by cases hg⟩,a5,λk E=>E.elim,λh=>h⟩
  ?a1 ?assign ?body ?done ?stop
 case hg=>simp [Act.eval]
 case assign=>
  intro l x W K f;gi_wp2
  exact f
 case done=>
  rintro D M xs W hD hS h f;obtain ⟨v,O,F,_⟩:=h.o;have hc:=O.cell;have bc:=Z F;have HB:=Z h.b;obtain rfl:=hS;have bB:(dw ((bd t).map fa)).length<=10000000:=by have:=lu (bd t);have:=jo t;have:=ez t;omega
  have cb:=ez t;have HJ:=Z (lw (w:=W) (B:=w.heap.size) (n:=((bd t).map fa).length) (v:=v) (l:=(bd t).map fa) F (by simp;omega) (by omega));clear h F;gi_wp2_with (refine ⟨trivial,?_⟩;gi_at_call 244;refine (callsIn_wide.2 HJ.o).mono ?_;rintro e d ⟨rfl,a⟩)
  have ad:d.heap[D]? =X (.deferred (X [])):=(a.block D (ae f)).trans f;refine ⟨by simp, .inl ⟨_,_,rfl,run_takeDeferred ad,?_⟩⟩;refine ⟨_,results_tmp rfl _ _ _,by rw [C.o];rfl,(HB.o.trans (a.mono HB.o.size)).trans (belowK_b (w:=w) (em _) d D _ _ (by have:=a5.size;omega) ad rfl rfl)⟩
 case stop=> rintro D c M j W _ _ h _;exact h.elim
 case body=>
  rintro l M j x W h hx;obtain ⟨v,O,F,al⟩:=h.o;have hc:=O.cell;obtain ⟨i0,hi,av,ax,ay⟩:=iD i9;have HB:=Z h.b;have C:=Z F;have V:=Z O;have a9:=Z al;have Q:=Z h;have au:=hx.1;have ce:x.length<=4000000:=by have:=kL t x (by obtain ⟨z,hz⟩:=hx.2;rw [<- hz];simp);omega
  have c4:j.length<100000000:=by have:=hx.2.length_le;have:=ez t;simp at *;omega
  clear h F O al hx;by_cases hd:fN x=true
  · have cd:0<x.length:=List.length_pos_iff.2 au;have ao:(x.length:Int) - 1=((x.length - 1:Nat):Int):=by omega
    have b4:x.length - 1<=x.length:=by omega
    obtain ⟨q,hq⟩:=Qe (x.length - 1);obtain ⟨y,hy⟩:=Qe (stripR x);have cg:y.length<=x.length:=by rw [<- hy];exact mX x
    have HY:Hid ((x.take q).dropWhile (· ==48)++x.drop q=y):=by unfold Hid;rw [<- hy, <- hq,ip x au]
    have R:Hid (fa x=(48+fl (min y.length 99 / 10))::(48+fl (min y.length 99%10))::y):=by unfold Hid fa;rw [if_pos hd,hy,UInt8.ofNat_add,UInt8.ofNat_add];rfl
    rw [hq] at ao b4;have b2:¬9223372036854775807<(List.dropWhile (· ==48) (x.take q)).length+(x.drop q).length:=by have:=congrArg hH HY.o;rw [er] at this;omega
    have HD:Hid (∀W,fs prog 230 #[S x] W λe w'=>e=dx (dy true)/\Bw W w'):=λW=>by have:=dH x W (by omega);unfold fN at hd;rw [hd] at this;exact this
    have b9:prog.follows .mixedOrders=true:=by kernel_rfl
    have b8:IntKind.i64.wrap (q:Int)=q:=gO _ (by omega);have cc:IntKind.i64.wrap ((x.length:Int) - 1)=q:=by rw [ao];exact b8
    have c7:(0:Int)<=q:=by omega
    have c6:(q:Int)<=(x.length:Int):=by omega
    have bY:¬9223372036854775807<(List.dropWhile (· ==48) (x.take q)).length+(x.length - q):=by rw [<- fr];exact b2
    skip;obtain ⟨n,hn⟩:=Qe (min y.length 99);have c3:n<=99:=by omega
    have c1:min (y.length:Int) 99=(n:Int):=by omega
    have c5:Int.tdiv (n:Int) 10=((n / 10:Nat):Int):=by rw [Int.tdiv_eq_ediv_of_nonneg (by omega)];omega
    have c9:Int.tmod (n:Int) 10=((n%10:Nat):Int):=by rw [gn (by omega)];omega
    rw [hn] at R;have bv:n / 10<=9:=by omega
    have bw:n%10<=9:=by omega
    generalize n / 10=d1 at *;generalize n%10=d2 at *;clear hd hy hq hn;gi_wp2_with (refine ⟨trivial,?_⟩;gi_at_call 230;refine (CallsIn.inRound l (callsIn_wide.2 (HD _))).mono ?_;rintro e d ⟨rfl,a⟩;have H:=Q.at a;have p:=Z (show Boxed d w.heap.size 81 v from (a.block _ (ae V.o)).trans V.o);have G:=Z (ah C.o λg hg=>a.block g (kZ C.o g hg));have b0:=p.cell;have bs:∀o,(d.alloc o).cell? ⟨w.heap.size,0,Y⟩=X v:=λo=>(p.alloc o).cell;have bt:∀o,(d.alloc o).drew.cell? ⟨w.heap.size,0,Y⟩=X v:=λo=>(p.alloc o).cell;have a0:=Z H.b;clear H)
    have T:True:=trivial;refine mx (λ_=>True) 12 b9 (by decide) (by kernel_rfl) (λ⟨_,_,h⟩=>h) ?_;refine tk 0 ?_ rfl T ?_ ?_;rotate_left;intro w' h;go_simp;rfl;refine tk 1 ?_ rfl T ?_ ?_;rotate_left;intro w' h;go_simp;rfl;refine tk 2 ?_ rfl T ?_ ?_;rotate_left;intro w' h;go_simp;rfl;refine tk 3 ?_ rfl T ?_ ?_;rotate_left;intro w' h;go_simp;rfl;refine tk 4 ?_ rfl T ?_ ?_;rotate_left;intro w' h;go_simp;rfl;refine tk 6 ?_ rfl T ?_ ?_;rotate_left;intro w' h;go_simp;rfl;refine tk 7 ?_ rfl T ?_ ?_;rotate_left;intro w' h;go_simp;rfl;refine tk 8 ?_ rfl T ?_ ?_;rotate_left;intro w' h;go_simp;rfl;refine tk 9 ?_ rfl T ?_ ?_;rotate_left;intro w' h;go_simp;rfl;refine tk 10 ?_ rfl T ?_ ?_;rotate_left;intro w' h;go_simp;rfl;refine Dp 5 λK f=>?_;go_simp;go_at_call 282;refine (nN _ _).mono ?_;rintro e w3 ⟨rfl,rfl⟩;refine f _ _ (λ_=>T) ?_;clear f K;refine bM (i:=11) (v:=S y) rfl (by kernel_rfl) (by kernel_rfl) (by kernel_rfl) (by kernel_rfl) (by decide) (λ_ _ _ h=>h) T (Or.inl ⟨by rfl,?_⟩) ?_;focus (intro w' h;go_simp;exact HY.o)
    refine Dp 12 λK f=>?_;go_simp;refine f _ _ (λ_=>T) ?_;refine dN ?_;gi_wp2_with (gi_at_builtin;(refine wpListIn_append_own_at _ rfl _ _ 81 rfl w.heap.size 9 i0 (.string ⟨#[]⟩) 1 16 underlying81 hi av ax ay rfl hJ v (ib fa j).length (ib (λs=>S s) (ib fa j)) ?_ ?_ ⟨d.heap.size+1,0,Y⟩ 1 1 [gQ {data:=((48+fl d1)::(48+fl d2)::y).toArray}] ?_ ?_ ?_ ?_ ?_ ?_ ?_ ?_);(focus rfl);(focus exact lc ((G.o.alloc _).alloc _));(focus rfl);(focus rfl);(focus exact vM _ _ _ _);(focus simp [g5]);(focus (unfold maxLen;rw [gq];omega));(focus (rw [gq];omega));(focus (have:=a0.o.size;simp;omega));intro v' w1 L a8 _ I;obtain ⟨g',aS,rfl⟩:=ownsRow_succ L;have a6:=xZ a (e7 #[hQ IntKind.u8 (48+d1),hQ IntKind.u8 (48+d2)] 5) (e7 #[gQ {data:=((48+fl d1)::(48+fl d2)::y).toArray}] 9);obtain ⟨P,A,u,r⟩:=nu (z:=fa x) Q.o a6 (em _) (yh ((p.o.alloc _).alloc _)) (lc ((G.o.alloc _).alloc _)) a9.o (by rw [R.o];exact L) a8 I;rw [gq] at A u r;have aT:=P.cell;have b1:=P.frozen;have a4:=Z A;have a3:=Z u;have a2:=Z r;clear A u r I)
    exact ⟨a4.o,a3.o,by have h:=a2.o;rw [<- ka, <- gx] at h;exact h⟩
  · have R:Hid (fa x=x):=by unfold Hid fa;rw [if_neg hd]
    have a7:fN x=false:=by simpa using hd
    have HD:Hid (∀W,fs prog 230 #[S x] W λe w'=>e=dx (dy false)/\Bw W w'):=λW=>by have:=dH x W (by omega);unfold fN at a7;rw [a7] at this;exact this
    clear hd a7
    gi_wp2_with (first
     |(refine ⟨trivial,?_⟩;gi_at_call 230;refine (CallsIn.inRound l (callsIn_wide.2 (HD _))).mono ?_;rintro e d ⟨rfl,a⟩;have H:=Q.at a;have p:=Z (show Boxed d w.heap.size 81 v from (a.block _ (ae V.o)).trans V.o);have G:=Z (ah C.o λg hg=>a.block g (kZ C.o g hg));have b0:=p.cell;have a0:=Z H.b;clear H)
     |(gi_at_builtin;(refine wpListIn_append_own_at _ rfl _ _ 81 rfl w.heap.size 9 i0 (.string ⟨#[]⟩) 1 16 underlying81 hi av ax ay rfl hJ v (ib fa j).length (ib (λs=>S s) (ib fa j)) ?_ ?_ ⟨d.heap.size,0,Y⟩ 1 1 [S x] ?_ ?_ ?_ ?_ ?_ ?_ ?_ ?_);(focus rfl);(focus exact G.o.alloc _);(focus rfl);(focus rfl);(focus exact cell_one_new _ _ _);(focus simp [g5]);(focus (unfold maxLen;rw [gq];omega));(focus (rw [gq];omega));(focus (have:=a0.o.size;simp;omega));intro v' w1 L a8 _ I;obtain ⟨g',aS,rfl⟩:=ownsRow_succ L;have a6:Bw W (d.alloc (e7 #[S x] 9)):=a.alloc a.size _;obtain ⟨P,A,u,r⟩:=nu (z:=fa x) Q.o a6 (em _) (p.o.alloc _) (G.o.alloc _) a9.o (by rw [R.o];exact L) a8 I;rw [gq] at A u r;have aT:=P.cell;have b1:=P.frozen;have a4:=Z A;have a3:=Z u;have a2:=Z r;clear A u r I))
    exact ⟨a4.o,a3.o,by have h:=a2.o;rw [<- ka, <- gx] at h;exact h⟩
def ixGo (a:Bs):List af->Nat->Option Nat
 |[],_=>Y
 |f::l,i=>if f.tag=a then X i else ixGo a l (i+1)
def ixI:Option Nat->Int
 |some k=>k
 |none=> -1
theorem vh (a:Bs) (l:List af) (i:Nat):(∃k,ixGo a l i=X k/\∃h:k - i<l.length,i<=k/\l.find? (λf=>f.tag==a)=X l[k - i])∨(ixGo a l i=Y/\l.find? (λf=>f.tag==a)=Y):=by
 induction l generalizing i with
 |nil=>exact .inr ⟨rfl,rfl⟩
 |cons f l ih=>
  unfold ixGo;by_cases h:f.tag=a
  · rw [if_pos h];exact .inl ⟨i,rfl,by simp,em _,by simp [h]⟩
  · rw [if_neg h,List.find?_cons_of_neg (by simpa using h)];rcases ih (i+1) with ⟨k,c,d,g,b⟩|⟨c,b⟩
    · have e:k - i=k - (i+1)+1:=by omega
      refine .inl ⟨k,c,by simp only [eQ];omega,by omega,?_⟩;rw [b];simp only [e,List.getElem_cons_succ]
    · exact .inr ⟨c,b⟩
theorem qK (b:Bs) (a:List af):(∃k,ixGo b a 0=X k/\∃h:k<a.length,firstF a b=X a[k])∨(ixGo b a 0=Y/\firstF a b=Y):=by
 rcases vh b a 0 with ⟨k,d,e,_,c⟩|⟨d,c⟩
 · exact .inl ⟨k,d,e,c⟩
 · exact .inr ⟨d,c⟩
theorem np {a:List af} {k:Nat} (h:k<a.length):a.drop k=a[k]::a.drop (k+1):=hu h
def Am (g p:Nat) (b:Bs):Prop:=∀(a i x:Bs) (d:gb) (w:e8),w.cell? ⟨p,0,Y⟩=X (S b)->
 fs prog g #[.agg #[S a,S i,S x,d],e6 (X ⟨p,0,Y⟩)] w λe w'=>e=dx (dy (decide (a=b)))/\Bw w w'
theorem ur (p:Nat) (c:Bs):Am 245 p c:=by
 intro a i x d w b;have e:=bm b;have f:∀o,(w.alloc o).cell? ⟨p,0,Y⟩=X (S c):=λo=>by rw [aU _ _ _ _ e];exact b
 go_enter func245,ntmps245;go_wp2_with fail
 go_ret;exact ⟨ap (by rw [iv];simp),(es _ w).alloc (em _) _⟩
theorem sS (p:Nat) (c:Bs):Am 242 p c:=by
 intro a i x d w b;have e:=bm b;have f:∀o,(w.alloc o).cell? ⟨p,0,Y⟩=X (S c):=λo=>by rw [aU _ _ _ _ e];exact b
 go_enter func242,ntmps242;go_wp2_with fail
 go_ret;exact ⟨ap (by rw [iv];simp),(es _ w).alloc (em _) _⟩
theorem mF (p:Nat) (f:Bs) (v:gb) (c:List af) (w:e8) (o:ai 0 w.heap.size w v c) (E:c.length<=1000000) (n:w.cell? ⟨p,0,Y⟩=some (S f)):
 fs prog 241 #[v, .func (.func 245) #[] #[e6 (some ⟨p,0,Y⟩)]] w λe w'=>e=dx (J U (ixI (ixGo f c 0)))/\Bw w w':=by
 have t:=Z o;have s:=Z n;obtain ⟨a,u,rfl⟩:=o.shape;have x:=bm n;clear o n;go_enter func241,ntmps241;go_wp2_with fail
 go_loopw [5,8] (λ_j i wr=>∃(k:Nat),k<=c.length/\i=J U k/\Hid (ixGo f c 0=ixGo f (c.drop k) k)/\Bw w wr) (λ_ i _=>c.length - (intOf i).toNat)
 case atStart=>exact ⟨0,gp _,rfl,rfl,es _ _⟩
 case round=>
  obtain ⟨k,D,rfl,l,g⟩:=hrel;by_cases hlt:k<c.length
  · have r:ai 0 w.heap.size wr (hV a c.length u) c:=t.kept (aY g (em _));have q:wr.cell? ⟨p,0,Y⟩=some (S f):=((aE g).1 p 0 x).trans s.o;obtain ⟨b,F,B,d,y,C,_,z,c1,c2,A,_⟩:=r.field k hlt;cases y;have h:=Z (ur p f c[k].tag c[k].ind c[k].data d wr q);have j:Hid (ixGo f (c.drop k) k=if c[k].tag=f then some k else ixGo f (c.drop (k+1)) (k+1)):=by unfold Hid;rw [np hlt];rfl
    clear r q;generalize c[k].tag=T at *;generalize c[k].ind=I at *;generalize c[k].data=X at *;by_cases hT:T=f
    · rw [if_pos hT] at j;rw [show decide (T=f)=true from decide_eq_true hT] at h;clear hT;go_wp2_with (go_at_call 245;((with_reducible refine eg h.o ?_);rintro e w' ⟨rfl,m⟩))
      go_ret;exact ⟨aH (by rw [l.o,j.o];rfl),btr g m g.size⟩
    · rw [if_neg hT] at j;rw [show decide (T=f)=false from decide_eq_false hT] at h;clear hT;go_wp2_with (go_at_call 245;((with_reducible refine eg h.o ?_);rintro e w' ⟨rfl,m⟩))
      go_roundw
      case rel=>exact ⟨k+1,by omega,by go_num,by unfold Hid;rw [l.o,j.o],btr g m g.size⟩
      case measure=>simp [intOf];omega
  · go_wp2_with fail
    go_ret;refine ⟨aH ?_,g⟩;rw [l.o,gt (by omega)];rfl
theorem mG (p:Nat) (f:Bs) (v:gb) (c:List af) (w:e8) (o:ai 0 w.heap.size w v c) (E:c.length<=1000000) (n:w.cell? ⟨p,0,Y⟩=some (S f)):
 fs prog 241 #[v, .func (.func 242) #[] #[e6 (some ⟨p,0,Y⟩)]] w λe w'=>e=dx (J U (ixI (ixGo f c 0)))/\Bw w w':=by
 have t:=Z o;have s:=Z n;obtain ⟨a,u,rfl⟩:=o.shape;have x:=bm n;clear o n;go_enter func241,ntmps241;go_wp2_with fail
 go_loopw [5,8] (λ_j i wr=>∃(k:Nat),k<=c.length/\i=J U k/\Hid (ixGo f c 0=ixGo f (c.drop k) k)/\Bw w wr) (λ_ i _=>c.length - (intOf i).toNat)
 case atStart=>exact ⟨0,gp _,rfl,rfl,es _ _⟩
 case round=>
  obtain ⟨k,D,rfl,l,g⟩:=hrel;by_cases hlt:k<c.length
  · have r:ai 0 w.heap.size wr (hV a c.length u) c:=t.kept (aY g (em _));have q:wr.cell? ⟨p,0,Y⟩=some (S f):=((aE g).1 p 0 x).trans s.o;obtain ⟨b,F,B,d,y,C,_,z,c1,c2,A,_⟩:=r.field k hlt;cases y;have h:=Z (sS p f c[k].tag c[k].ind c[k].data d wr q);have j:Hid (ixGo f (c.drop k) k=if c[k].tag=f then some k else ixGo f (c.drop (k+1)) (k+1)):=by unfold Hid;rw [np hlt];rfl
    clear r q;generalize c[k].tag=T at *;generalize c[k].ind=I at *;generalize c[k].data=X at *;by_cases hT:T=f
    · rw [if_pos hT] at j;rw [show decide (T=f)=true from decide_eq_true hT] at h;clear hT;go_wp2_with (go_at_call 242;((with_reducible refine eg h.o ?_);rintro e w' ⟨rfl,m⟩))
      go_ret;exact ⟨aH (by rw [l.o,j.o];rfl),btr g m g.size⟩
    · rw [if_neg hT] at j;rw [show decide (T=f)=false from decide_eq_false hT] at h;clear hT;go_wp2_with (go_at_call 242;((with_reducible refine eg h.o ?_);rintro e w' ⟨rfl,m⟩))
      go_roundw
      case rel=>exact ⟨k+1,by omega,by go_num,by unfold Hid;rw [l.o,j.o],btr g m g.size⟩
      case measure=>simp [intOf];omega
  · go_wp2_with fail
    go_ret;refine ⟨aH ?_,g⟩;rw [l.o,gt (by omega)];rfl
def bC (b:List cr) (a:Bs):List Bs:=(b.filter λs=>a.contains s.code).map cr.text
theorem kQ (a:List cr) (b:Bs) (k:Nat) (h:k<a.length):bC (a.take (k+1)) b=bC (a.take k) b++if b.contains a[k].code then [a[k].text] else []:=by
 unfold bC;rw [g4 h,hZ,gx];congr 1
 generalize a[k]=x;by_cases hc:b.contains x.code=true
 · rw [if_pos hc];simp only [gi,hc,if_true,List.filter_nil,gz,List.map_nil]
 · rw [if_neg hc];simp only [gi,hc,List.filter_nil];rfl
theorem gM (a:List cr) (b:Bs):(bC a b).length<=a.length:=by
 unfold bC;rw [gq];exact i4 _ _
theorem kR (a:List cr) (b:Bs) (N:Nat) (h:∀s∈a,s.text.length<=N):(dw (bC a b)).length<=a.length * (N+1):=by
 refine fz (gV _) ?_;unfold bC;induction a with
 |nil=>simp
 |cons s a ih=>
  have d:=h s g3;have e:=ih λx c=>h x (gP _ c);rw [gi];split
  · simp only [gz,g2,eQ,Nat.succ_mul];omega
  · simp only [eQ,Nat.succ_mul];omega
theorem hE (w:e8) (o:Obj) (x:gb) (t:TypeId):∀j u,[x][j]? =X u->((w.alloc o).alloc (e7 #[x] t)).cell? ((⟨w.heap.size+1,0,Y⟩:Addr).add j)=X u:=by
 have h:=cell_one_new (w.alloc o) x t;rw [fx] at h;exact h
theorem pH (a i x:Bs) (d:gb) (f:List cr) (c:UInt8) (w:e8) (y:aA 0 w.heap.size w d f) (V:f.length<=1000000) (t:∀s∈f,s.text.length<=1000000):
 fs prog 183 #[.agg #[S a,S i,S x,d],J dz c.toNat] w λe w'=>e=dx (S (textS f [c]))/\Bw w w':=by
 have M:=Z y;have I:Hid ((dw (bC f [c])).length<=140737488355328):=by have h1:=kR f [c] 1000000 t;have:f.length * (1000000+1)<=1000000 * 1000001:=hF V (em _);unfold Hid;omega
 obtain ⟨O,P,rfl,_⟩:=y;clear t;obtain ⟨i0,r,A,n,B⟩:=iD i9;have E:=Z r;have F:=Z A;have G:=Z n;have H:=Z B;clear r A n B;go_enter func183,ntmps183;go_wp2_with fail
 go_loopw [5,11] (λv j wr=>∃(k:Nat),k<=f.length/\j=J U k/\Hid (wr.ownsRow (w.heap.size+1) 9 1 v (bC (f.take k) [c]).length ((bC (f.take k) [c]).map λs=>S s))/\Bw w wr/\w.heap.size+1<=wr.heap.size) (λ_ j _=>f.length - (intOf j).toNat)
 case atStart=>exact ⟨0,gp _,rfl,h7 _ _ _ _,(es _ w).alloc (em _) _,by simp⟩
 case round=>
  obtain ⟨k,hk,rfl,l,g,hz⟩:=hrel;by_cases hlt:k<f.length
  · have z:aA 0 w.heap.size wr (hV O f.length P) f:=M.kept (aY g (em _));obtain ⟨b,a3,a0,W,p,q,c0,c1⟩:=z.sub k hlt;cases W;have m:=Z (kQ f [c] k hlt);clear z;generalize f[k].code=C at *;generalize f[k].text=T at *;have R:(bC (f.take k) [c]).length<=1000000:=by have:=gM (f.take k) [c];rw [e9] at this;omega
    generalize bC (f.take k) [c]=L at *;have a2:b<wr.heap.size:=by omega
    by_cases hC:C=c
    · subst hC;rw [if_pos (by simp)] at m;go_wp2_with (at_builtin;(refine hj _ rfl _ _ 81 rfl (w.heap.size+1) 9 i0 (.string ⟨#[]⟩) 1 16 underlying81 E.o F.o G.o H.o rfl hJ u5 L.length (L.map λs=>S s) ?_ ?_ ⟨wr.heap.size+1,0,Y⟩ 1 1 [S T] ?_ ?_ ?_ ?_ ?_ ?_ ?_ ?_);(focus rfl);(focus exact ((l.o.alloc _).alloc _));(focus rfl);(focus rfl);(focus exact hE _ _ _ _);(focus simp [g5]);(focus (unfold maxLen;omega));(focus omega);(focus (simp;omega));intro v' w1 u o _ _;have p:Bw w w1:=((g.alloc g.size _).alloc (by have:=g.size;simp;omega) _).grown o (by have:=g.size;simp;omega) (λj Q=>by have:=(l.o.lt j Q).1;omega);have n:=o.size;have K:=Z u;clear u o)
      go_roundw
      case rel=>exact ⟨k+1,by omega,by go_num,by unfold Hid;rw [m.o,er,gx];exact K.o,p,by simp at n;omega⟩
      case measure=>simp [intOf];omega
    · rw [if_neg (by simpa using hC),hf] at m;have a1:((C.toNat:Int)==(c.toNat:Int))=false:=by have:C.toNat≠c.toNat:=λh=>hC (UInt8.toNat_inj.1 h);simp;omega
      clear hC;go_wp2_with fail
      go_roundw
      case rel=>exact ⟨k+1,by omega,by go_num,by unfold Hid;rw [m.o];exact l.o.alloc _,g.alloc g.size _,by simp;omega⟩
      case measure=>simp [intOf];omega
  · have N:Hid (bC (f.take k) [c]=bC f [c]):=by unfold Hid;rw [gd (by omega)]
    rw [N.o] at l;have R:=gM f [c];have D:=Z (lw (w:=wr) l.o (by omega) I.o);go_wp2_with (go_at_call 244;((with_reducible refine eg D.o ?_);rintro e w2 ⟨rfl,q⟩))
    go_ret;exact ⟨rfl,btr g q g.size⟩
def bigC (v:gb):Array gb:=Array.replicate 256 (cs Y 0 0)++ #[v]
theorem dU (v:gb):(bigC v).size=257:=by simp [bigC]
theorem jO (v:gb) (k:Nat) (a:k<256):(bigC v)[k]? =X (cs Y 0 0):=by
 unfold bigC;rw [hh (by simpa using a)];simp [a]
theorem kH (v:gb):(bigC v)[256]? =X v:=by
 unfold bigC;rw [Array.getElem?_append_right (by simp)];simp
theorem ui (v u:gb):(bigC v).setIfInBounds 256 u=bigC u:=by
 apply Array.ext_getElem?;intro i;rw [Array.getElem?_setIfInBounds,dU];by_cases h:256=i
 · subst h;simp [kH]
 · rw [if_neg h];by_cases h2:i<256
   · rw [jO _ _ h2,jO _ _ h2]
   · rw [iS (by rw [dU];omega),iS (by rw [dU];omega)]
theorem jN {w:e8} {g:Nat} {v:gb} (h:w.heap[g]? =X (e7 (bigC v) 403 (0,0))):w.cell? ⟨g,256,Y⟩=X v/\w.cell? ⟨g,45,Y⟩=X (cs Y 0 0)/\w.cell? ⟨g,32,Y⟩=X (cs Y 0 0):=
 ⟨(aa h 256).trans (kH v),(aa h 45).trans (jO v 45 (by decide)),(aa h 32).trans (jO v 32 (by decide))⟩
def gc (v e:gb):Array gb:=(bigC v).setIfInBounds 45 e
theorem nC (v e:gb):(gc v e).size=257:=by unfold gc;rw [Array.size_setIfInBounds,dU]
theorem yi (v e u:gb):(gc v e).setIfInBounds 256 u=gc u e:=by
 unfold gc;rw [<- ui v u,Array.setIfInBounds_comm _ _ (by decide)]
theorem iB {w:e8} {g:Nat} {v e:gb} (h:w.heap[g]? =X (e7 (gc v e) 403 (0,0))):w.cell? ⟨g,256,Y⟩=X v/\w.cell? ⟨g,32,Y⟩=X (cs Y 0 0):=by
 refine ⟨(aa h 256).trans ?_,(aa h 32).trans ?_⟩
 · unfold gc;rw [fc (by decide)];exact kH v
 · unfold gc;rw [fc (by decide)];exact jO v 32 (by decide)
def l9 (lo:Nat) (W:e8) (g:Nat):Prop:=∃(a:Option Addr) (c b1 k1 b2 k2:Nat),W.heap[g]? =X (e7 ((gc (cs a 2 c) (cs (X ⟨b1,0,Y⟩) 0 k1)).setIfInBounds 32 (cs (X ⟨b2,0,Y⟩) 0 k2)) 403 (0,0))/\W.ownsRow lo 9 1 (cs a 2 c) 2 [S [45],S [32]]
theorem v8:Tryz.zeroCells403=bigC (cs Y 0 0):=by kernel_rfl
theorem zS (v:gb):Tryz.zeroCells403.toList.set 256 v=(bigC v).toList:=by kernel_rfl
theorem uw (g:Nat) (a:Option Addr) (n k:Nat) (b:Array gb) (w:e8) (h:w.heap[g]? =X (e7 b 403 (0,0))) (d:b.size=257):
 ∃w',(storeCells ⟨g,0,Y⟩ (Tryz.zeroCells403.toList.set 256 (cs a n k))).run prog w= .ok () w'/\w'.heap[g]? =X (e7 (bigC (cs a n k)) 403 (0,0))/\ar g w w':=by
 have f:(bigC (cs a n k)).toList.length=257:=by rw [j0,dU]
 have j:∀v∈(bigC (cs a n k)).toList,v.oneCell'=true:=by intro v i;simp only [bigC,Array.toList_append,Array.toList_replicate,List.mem_append,List.mem_replicate,List.mem_singleton] at i;rcases i with ⟨_,rfl⟩|rfl<;>rfl
 have c:=run_storeCells_at (P:=prog) g 0 403 (bigC (cs a n k)).toList 0 b w h (by rw [f,d];omega) j;rw [f] at c;have e:(b.toList.take (0+0)++(bigC (cs a n k)).toList++b.toList.drop (0+0+257)).toArray=bigC (cs a n k):=by
  have:b.toList.drop (0+0+257)=[]:=by apply List.drop_eq_nil_of_le;rw [j0,d];omega
  rw [this];simp
 rw [e] at c;rw [zS];exact ⟨w.setRow g (bigC (cs a n k)),c,setRow_heap w g b _ 403 (0,0) h,setRow_os _ _ _,setRow_tape _ _ _,setRow_output _ _ _,setRow_size _ _ _,λk l=>setRow_other w g k _ l⟩
theorem xN (w:e8):(binOp .eql 76 (cs Y 0 0) (cs Y 0 0)).run prog w= .ok (dy true) w:=by kernel_rfl
theorem ql (w:e8):(binOp .neq 76 (cs Y 0 0) (cs Y 0 0)).run prog w= .ok (dy false) w:=by kernel_rfl
theorem ng (g n k:Nat) (w:e8):(binOp .neq 76 (cs (X ⟨g,0,Y⟩) n k) (cs Y 0 0)).run prog w= .ok (dy true) w:=by kernel_rfl
theorem lL (W:e8):∃(k:Nat) (W':e8),(convert 9 76 (S [])).run prog W= .ok (cs (X ⟨W.heap.size,0,Y⟩) 0 k) W'/\Bw W W':=by
 refine ⟨_,_,Lib.run_convert_string_bytes W 9 76 5 ⟨#[]⟩ underlying9 underlying76 underlying5,rfl,rfl,rfl,?_,λk a=>Lib.bytesWorld_at_old _ _ _ _ a⟩;rw [Lib.bytesWorld_size];omega
def onC (a:Array gb):Array gb:= #[S [32],S [],S [45],S []]++a
theorem ig (a:Array gb):(onC a)[0]? =X (S [32])/\(onC a)[1]? =X (S [])/\(onC a)[2]? =X (S [45])/\(onC a)[3]? =X (S []):=by
 unfold onC;refine ⟨?_,?_,?_,?_⟩<;>(rw [hh (by simp)];rfl)
theorem yU (w:e8):(Instr.makeSlice 81 (J U 0) (J U 2)).run prog w= .ok (cs (X ⟨w.heap.size,0,Y⟩) 0 2) (w.alloc (e7 #[S [],S []] 9)):=by kernel_rfl
theorem vR (R on kk:Nat) (d:Array gb) (x y z q:gb) (w:e8) (hR:w.heap[R]? =X (e7 #[x,y,z,q,cs (X ⟨on,0,Y⟩) 4 kk] 355 (0,0))) (t:w.heap[on]? =X (e7 (onC d) 9 (0,0))):
 fs prog 322 #[e6 (X ⟨R,0,Y⟩)] w λe w'=>e=dx (.iface 404 (e6 (X ⟨w.heap.size+1,0,Y⟩)))/\Bw w w'/\l9 w.heap.size w' (w.heap.size+1)/\w.heap.size+1<w'.heap.size:=by
 have r4:w.cell? ⟨R,4,Y⟩=X (cs (X ⟨on,0,Y⟩) 4 kk):=(aa hR 4).trans rfl;have n0:w.cell? ⟨on,0,Y⟩=X (S [32]):=(aa t 0).trans (ig d).1;have n1:w.cell? ⟨on,1,Y⟩=X (S []):=(aa t 1).trans (ig d).2.1;have n2:w.cell? ⟨on,2,Y⟩=X (S [45]):=(aa t 2).trans (ig d).2.2.1;have n3:w.cell? ⟨on,3,Y⟩=X (S []):=(aa t 3).trans (ig d).2.2.2;have HR:=Z hR;have HO:=Z t;clear hR t;go_enter func322,ntmps322;go_wp2_with fail
 refine g9 3 ?_;rw [ft];go_wp2_with fail
 rw [ft];go_wp2_with fail
 rw [ft];go_upto_region 26 with fail
 have b9:=yU w;obtain ⟨w1,G⟩:=Qe (w.alloc (e7 #[S [],S []] 9));have W:w1.heap.size=w.heap.size+1:=by rw [<- G];simp
 have b6:w1.heap[w.heap.size]? =X (e7 #[S [],S []] 9 (0,0)):=by rw [<- G];exact ex w _
 have b7:Bw w w1:=by rw [<- G];exact (es _ w).alloc (em _) _
 rw [G] at b9;obtain ⟨l,V⟩:=Qe (w1.alloc (e7 Tryz.zeroCells403 403));have b5:l.heap[w1.heap.size]? =X (e7 Tryz.zeroCells403 403 (0,0)):=by rw [<- V];exact ex w1 _
 have ad:Bw w1 l:=by rw [<- V];exact (es _ w1).alloc (em _) _
 obtain ⟨a,bc,a8,bb⟩:=uw w1.heap.size (X ⟨w.heap.size,0,Y⟩) 0 2 _ l b5 (by rw [v8];exact dU _);rw [W] at bc a8;have cd:Hid (Bw w l):=b7.trans (ad.mono (by omega));have cb:Hid (l.heap[w.heap.size]? =X (e7 #[S [],S []] 9 (0,0))):=(ad.block _ (by omega)).trans b6;have a3:Hid (ar (w.heap.size+1) l a):=by rw [<- W];exact bb
 have K:=Z a8;have cg:Hid (l.heap.size=w.heap.size+2):=by unfold Hid;rw [<- V];simp [W]
 clear b5 ad a8 bb b6 b7;go_wp2_with fail
 have al:Bw w a:=cd.o.trans (a3.o.below (by omega));have aS:on<w.heap.size:=ae HO.o;have u:a.heap[on]? =X (e7 (onC d) 9 (0,0)):=(al.block _ aS).trans HO.o;have v:a.heap[w.heap.size]? =X (e7 #[S [],S []] 9 (0,0)):=(a3.o.block _ (by omega)).trans cb.o;obtain ⟨ch,cl,_⟩:=jN K.o;have cv:=ab K.o 45;have cq:=ab K.o 256;have m0:a.cell? ⟨on,0,Y⟩=X (S [32]):=(aa u 0).trans (ig d).1;have m1:a.cell? ⟨on,1,Y⟩=X (S []):=(aa u 1).trans (ig d).2.1;have m2:a.cell? ⟨on,2,Y⟩=X (S [45]):=(aa u 2).trans (ig d).2.2.1;have m3:a.cell? ⟨on,3,Y⟩=X (S []):=(aa u 3).trans (ig d).2.2.2;have t0:a.cell? ⟨w.heap.size,0,Y⟩=X (S []):=(aa v 0).trans rfl;have t1:a.cell? ⟨w.heap.size,1,Y⟩=X (S []):=(aa v 1).trans rfl;have ft0:=ab v 0;have cx:=ab v 1;have aT:a.heap.size=w.heap.size+2:=by rw [a3.o.size];exact cg.o
 have d9:¬(w.heap.size+1=w.heap.size):=by omega
 have da:¬(w.heap.size=w.heap.size+1):=by omega
 have bB:=Z al;have c4:=Z u;have cc:=Z v;have C:=Z aT;have c5:=Z aS;clear al aS u v aT r4 n0 n1 n2 n3 W b9 bc G V;have d8:=xN;obtain ⟨i0,hi,bk,bs,bt⟩:=iD i9;have HI:=Z hi;have b1:=Z bk;have b2:=Z bs;have b3:=Z bt;have c6:Hid (a.ownsRow w.heap.size 9 1 (cs (X ⟨w.heap.size,0,Y⟩) 0 2) 0 (([]:List Bs).map λs=>S s)):=⟨by simp, .inr ⟨w.heap.size,2, #[S [],S []],rfl,em _,cc.o,by omega,by unfold maxLen;omega,by simp,by simp⟩⟩;clear hi bk bs bt t0 t1 ft0 cx;refine g9 3 ?_;rw [ft];go_upto_region 33 with fail
 go_wp2_with (at_builtin;go_loud ((refine hj _ rfl _ _ 81 rfl w.heap.size 9 i0 (.string ⟨#[]⟩) 1 16 underlying81 HI.o b1.o b2.o b3.o rfl hJ (cs (X ⟨w.heap.size,0,Y⟩) 0 2) 0 (([]:List Bs).map λs=>S s) ?_ ?_ ⟨a.heap.size+1,0,Y⟩ 1 1 [S [45]] ?_ ?_ ?_ ?_ ?_ ?_ ?_ ?_);(focus rfl);(focus exact ((c6.o.alloc _).alloc _));(focus rfl);(focus rfl);(focus exact hE _ _ _ _);(focus simp [g5]);(focus (unfold maxLen;omega));(focus omega);(focus (have:=C.o;simp;omega));intro v' c o n _ _;obtain ⟨va,p,rfl⟩:=bF o;have D:c.heap[w.heap.size+1]? =X (e7 (bigC (cs (X ⟨w.heap.size,0,Y⟩) 0 2)) 403 (0,0)):=(n.block _ (by have:=C.o;simp;omega) (λe=>(by have f:X (w.heap.size+1)=X w.heap.size:=e;simp at f))).trans (by rw [fp _ _ _ (by have:=C.o;simp;omega),fp _ _ _ (by have:=C.o;omega)];exact K.o);obtain ⟨a6,b4,L⟩:=jN D;have a7:=ab D 256;have bA:=n.size;have M:=am D 256 (cs va 1 p);rw [ui] at M;obtain ⟨H,w5,ax,ao⟩:=lL (c.setCell ⟨w.heap.size+1,256,Y⟩ (cs va 1 p));have P:w5.heap[w.heap.size+1]? =X (e7 (bigC (cs va 1 p)) 403 (0,0)):=(ao.block _ (ae M)).trans M;obtain ⟨_,b4,L⟩:=jN P;have cz:=ab P 45;have bY:=Z D;have c0:=Z P;have a0:=Z ao;have a4:=Z o;have a2:=Z n;clear D P M ao o n bA))
 have aT:=C.o;have bA:a.heap.size+2<=c.heap.size:=by have:=a2.o.size;simpa using this
 have d0:c.heap.size<=w5.heap.size:=by have:=a0.o.size;simpa using this
 obtain ⟨b,rfl,O⟩:∃b,va=X ⟨b,0,Y⟩/\w.heap.size<=b/\b≠w.heap.size+1/\b<c.heap.size:=by
  obtain ⟨g,cm,k,ay,aC⟩:=hI a4.o (by omega);injection k with k _ _
  obtain ⟨cu,av⟩:=aD a4.o (g:=g) (by rw [k];rfl);exact ⟨g,k,ay,db av bY.o (by decide),aC⟩
 obtain ⟨h,A⟩:=Qe (w5.setCell ⟨w.heap.size+1,45,Y⟩ (cs (X ⟨c.heap.size,0,Y⟩) 0 H));have a9:h.heap[w.heap.size+1]? =X (e7 (gc (cs (X ⟨b,0,Y⟩) 1 p) (cs (X ⟨c.heap.size,0,Y⟩) 0 H)) 403 (0,0)):=by rw [<- A];exact am c0.o 45 _
 have T:∀q,q<c.heap.size->q≠w.heap.size+1->h.heap[q]? =c.heap[q]? :=λq hq F=>by rw [<- A,g1 _ _ _ _ F,a0.o.block q (by simpa using hq),g1 _ _ _ _ F]
 have dc:c.heap.size<=h.heap.size:=by rw [<- A];simpa using d0
 have ac:h.heap[on]? =X (e7 (onC d) 9 (0,0)):=by have:=c5.o;rw [T on (by omega) (by omega),a2.o.block on (by simp;omega) (λe=>(by have f:X on=X w.heap.size:=e;injection f with f;omega)),fp _ _ _ (by simp;omega),fp _ _ _ (by omega)];exact c4.o
 have p0:h.cell? ⟨on,0,Y⟩=X (S [32]):=(aa ac 0).trans (ig d).1;have p1:h.cell? ⟨on,1,Y⟩=X (S []):=(aa ac 1).trans (ig d).2.1;obtain ⟨dr,ds⟩:=iB a9;have c7:Hid (h.ownsRow w.heap.size 9 1 (cs (X ⟨b,0,Y⟩) 1 p) 1 (([[45]]:List Bs).map λs=>S s)):=ah a4.o (λg hg=>by
  have f:b=g:=by have:X b=X g:=hg;injection this
  subst f;exact T _ O.2.2 O.2.1)
 have c1:=Z a9;have d3:=Z T;have d2:=Z O;have ce:=Z A;rw [A];clear A T a9 ac ax a6 b4 L a7 cz ch cl cv cq m0 m1 m2 m3;obtain ⟨d4,d5,d6⟩:=O;rw [ft];go_upto_region 33 with fail
 go_wp2_with (at_builtin;go_loud ((refine hj _ rfl _ _ 81 rfl w.heap.size 9 i0 (.string ⟨#[]⟩) 1 16 underlying81 HI.o b1.o b2.o b3.o rfl hJ (cs (X ⟨b,0,Y⟩) 1 p) 1 (([[45]]:List Bs).map λs=>S s) ?_ ?_ ⟨h.heap.size+1,0,Y⟩ 1 1 [S [32]] ?_ ?_ ?_ ?_ ?_ ?_ ?_ ?_);(focus rfl);(focus exact ((c7.o.alloc _).alloc _));(focus rfl);(focus rfl);(focus exact hE _ _ _ _);(focus simp [g5]);(focus (unfold maxLen;omega));(focus omega);(focus (simp;omega));intro v' i o n _ _;obtain ⟨vb,vd,rfl⟩:=bF o;have E:i.heap[w.heap.size+1]? =X (e7 (gc (cs (X ⟨b,0,Y⟩) 1 p) (cs (X ⟨c.heap.size,0,Y⟩) 0 H)) 403 (0,0)):=(n.block _ (by simp;omega) (λe=>(by have f:X (w.heap.size+1)=X b:=e;injection f with f;omega))).trans (by rw [fp _ _ _ (by simp;omega),fp _ _ _ (by omega)];exact c1.o);obtain ⟨a6,L⟩:=iB E;have a7:=ab E 256;have N:=am E 256 (cs vb 2 vd);rw [yi] at N;obtain ⟨k9,I,ax,au⟩:=lL (i.setCell ⟨w.heap.size+1,256,Y⟩ (cs vb 2 vd));have Q:I.heap[w.heap.size+1]? =X (e7 (gc (cs vb 2 vd) (cs (X ⟨c.heap.size,0,Y⟩) 0 H)) 403 (0,0)):=(au.block _ (ae N)).trans N;obtain ⟨_,cp⟩:=iB Q;have cy:=ab Q 32;have c2:=Z E;have c3:=Z Q;have a1:=Z au;have a5:=Z o;have b0:=Z n;clear E Q N au o n))
 obtain ⟨m,rfl,d7,cP,cQ⟩:∃m,vb=X ⟨m,0,Y⟩/\w.heap.size<=m/\m≠w.heap.size+1/\m<i.heap.size:=by
  obtain ⟨g,cm,k,ay,aC⟩:=hI a5.o (by omega);injection k with k _ _
  obtain ⟨cu,av⟩:=aD a5.o (g:=g) (by rw [k];rfl);exact ⟨g,k,ay,db av c2.o (by decide),aC⟩
 have dd:h.heap.size+2<=i.heap.size:=by have:=b0.o.size;simpa using this
 have dk:i.heap.size<=I.heap.size:=by have:=a1.o.size;simpa using this
 obtain ⟨r,B⟩:=Qe (I.setCell ⟨w.heap.size+1,32,Y⟩ (cs (X ⟨i.heap.size,0,Y⟩) 0 k9));have b8:∀q,q<i.heap.size->q≠w.heap.size+1->r.heap[q]? =i.heap[q]? :=λq hq F=>by rw [<- B,g1 _ _ _ _ F,a1.o.block q (by simpa using hq),g1 _ _ _ _ F]
 have c9:Hid (l9 w.heap.size r (w.heap.size+1)):=⟨X ⟨m,0,Y⟩,vd,c.heap.size,H,i.heap.size,k9,by rw [<- B];exact am c3.o 32 _,ah a5.o (λg hg=>by
  have f:m=g:=by have:X m=X g:=hg;injection this
  subst f;exact b8 _ cQ cP)⟩
 have bO:Hid (Bw w r):=by
  have h3:Bw w a:=bB.o;have h4:Bw w c:=(((h3.alloc (by omega) _).alloc (by simp;omega) _)).grown a2.o (by simp;omega) (λj ej=>by have f:w.heap.size=j:=by {have:X w.heap.size=X j:=ej;injection this};omega);have h5:Bw w w5:=(h4.setCell (by simp) _).trans (a0.o.mono (by simp;omega));have h6:Bw w h:=by rw [<- ce.o];exact h5.setCell (by simp) _
  have h8:Bw w i:=(((h6.alloc (by omega) _).alloc (by simp;omega) _)).grown b0.o (by simp;omega) (λj ej=>by have f:b=j:=by {have:X b=X j:=ej;injection this};omega);have h9:Bw w I:=(h8.setCell (by simp) _).trans (a1.o.mono (by simp;omega));have:Bw w (I.setCell ⟨w.heap.size+1,32,Y⟩ (cs (X ⟨i.heap.size,0,Y⟩) 0 k9)):=h9.setCell (by simp) _;rw [B] at this;exact this
 have d1:w.heap.size+1<r.heap.size:=by rw [<- B];simp;omega
 rw [B];clear B b8 ax a6 L cp a7 cy;rw [ft];go_wp2_with fail
 go_ret;exact ⟨rfl,bO.o,c9.o,d1⟩
theorem xf (R on f N:Nat) (k:Array gb) (B:R<N):jS R (cs (X ⟨on,0,Y⟩) 4 f) (.iface 404 (e6 (X ⟨N+1,0,Y⟩)))
 (λw=>w.heap.size=N/\w.heap[on]? =X (e7 (onC k) 9 (0,0))) (λw w'=>ag (λq=>q=R) w (λq=>q=R) w'/\l9 N w' (N+1)):=by
 intro w A h;obtain ⟨rfl,m⟩:=A;have p:=Z (vR R on f k _ _ _ _ w h m);have r:=Z h;clear h m;go_enter func289,ntmps289;go_wp2_with (go_at_call 322;refine eg p.o ?_;rintro e d ⟨rfl,i,n,K⟩;have b:d.heap[R]? =X (e7 #[J .u32 0,J e5 1,J .u32 0, .nilIface,cs (X ⟨on,0,Y⟩) 4 f] 355 (0,0)):=(i.block R B).trans r.o;have F:d.cell? ⟨R,3,Y⟩=X .nilIface:=(aa b 3).trans rfl;have G:d.cell? ⟨R,4,Y⟩=X (cs (X ⟨on,0,Y⟩) 4 f):=(aa b 4).trans rfl;have H:=ab b 3;have I:=ab b 4;have s:=Z b;have o:=Z i;have t:=Z n;clear b i n)
 refine bodyPost_end (results_none rfl _ _ _) rfl ?_;have y:=am s.o 3 (.iface 404 (e6 (X ⟨w.heap.size+1,0,Y⟩)));have z:=am y 4 (cs Y 0 0);have j:ar R d ((d.setCell ⟨R,3,Y⟩ (.iface 404 (e6 (X ⟨w.heap.size+1,0,Y⟩)))).setCell ⟨R,4,Y⟩ (cs Y 0 0)):=((ar.refl R d).setCell 3 _).setCell 4 _;refine ⟨rfl,z,(ag.of_below o.o).trans (ag.of_only j rfl),?_⟩;obtain ⟨a,c,u,D,v,E,x,l⟩:=t.o;exact ⟨a,c,u,D,v,E,(j.block _ (by omega)).trans x,ah l (λg C=>j.block g (λe=>by have:=(l.lt g C).1;omega))⟩
theorem yS (w:e8) (A:Nat) (b:w.heap[A]? =X (e7 #[S [32],S [],S [45],S []] 9 (0,0))):fs prog 237 #[cs (X ⟨A,0,Y⟩) 4 4] w λe w'=>∃R on a c,e=dx (e6 (X ⟨R,0,Y⟩))/\w.heap.size<=R/\w.heap.size<=on/\R≠on/\
 w'.heap[R]? =X (e7 #[J .u32 0,J e5 0,J .u32 0, .nilIface,cs (X ⟨on,0,Y⟩) 4 a] 355 (0,0))/\w'.heap[on]? =X (e7 (onC c) 9 (0,0))/\Bw w w':=by
 have d:w.cell? ⟨A,0,Y⟩=X (S [32]):=(aa b 0).trans rfl;have f:w.cell? ⟨A,1,Y⟩=X (S []):=(aa b 1).trans rfl;have g:w.cell? ⟨A,2,Y⟩=X (S [45]):=(aa b 2).trans rfl;have h:w.cell? ⟨A,3,Y⟩=X (S []):=(aa b 3).trans rfl;clear b;go_enter func237,ntmps237;go_wp2_with fail
 generalize (Question.appendCap 4 0 9).cut (w.tape w.drawn (Question.appendCap 4 0 9))=a;refine ha (v:=e6 (X ⟨w.heap.size+1,0,Y⟩)) (by rw [results_tmp rfl];go_simp) rfl ?_;refine ⟨w.heap.size+1,w.heap.size,a,Builtin.zeroCells #[gQ {data:= #[]}] (a - 4),rfl,by omega,em _,by omega,?_,?_,?_⟩
 · have:=ex (w.alloc (e7 (#[S [32],S [],S [45],S []]++Builtin.zeroCells #[gQ {data:= #[]}] (a - 4)) 9)) (e7 #[J .u32 0,J e5 0,J .u32 0, .nilIface,cs (X ⟨w.heap.size,0,Y⟩) 4 a] 355);rw [fx] at this;exact this
 · show ((w.alloc _).alloc _).heap[w.heap.size]? =_;rw [fp _ _ _ (by simp)];exact ex w _
 · exact (((es _ w).alloc (em _) _).alloc (by simp) _).drew
def eP (b:UInt8):Bool:=decide (b=32)||decide (b=45)
def keepL (s:Bs):Bs:=s.filter λb=> !eP b
def cntL (s:Bs):Nat:=s.count 45+s.count 32
theorem vf (b:UInt8) (s:Bs):keepL (b::s)=if eP b then keepL s else b::keepL s:=by
 unfold keepL;rw [gi];cases eP b<;>rfl
theorem x9 (b:UInt8) (s:Bs):cntL (b::s)=cntL s+if eP b then 1 else 0:=by
 unfold cntL;rw [List.count_cons,List.count_cons];by_cases h1:b=32
 · subst h1;have c:((32:UInt8)==45)=false:=rfl;have a:eP 32=true:=rfl;simp [c,a];omega
 · by_cases h2:b=45
   · subst h2;have c:((45:UInt8)==32)=false:=rfl;have a:eP 45=true:=rfl;simp [c,a];omega
   · have a:eP b=false:=by unfold eP;rw [decide_eq_false h1,decide_eq_false h2];rfl
     simp [h1,h2,a]
theorem gD (s:Bs):(keepL s).length+cntL s=s.length:=by
 induction s with
 |nil=>rfl
 |cons b s ih=> rw [vf,x9,eQ];cases eP b<;>simp<;>omega
theorem xu {s:Bs} (h:cntL s=0):keepL s=s:=by
 have a:=gD s;rw [h] at a;exact List.filter_eq_self.2 (λb c=>by have:(s.filter λb=> !eP b).length=s.length:=a;exact List.length_filter_eq_length_iff.1 this b c)
theorem jB {s:Bs} {k:Nat} (a:k<s.length):keepL (s.take (k+1))=keepL (s.take k)++(if eP s[k] then [] else [s[k]]):=by
 unfold keepL;rw [g4 a,hZ,gi];cases eP s[k]<;>rfl
theorem x8 {s:Bs} {k:Nat} (c:k<s.length):cntL (s.take (k+1))=cntL (s.take k)+(if eP s[k] then 1 else 0):=by
 have a:=gD (s.take (k+1));have b:=gD (s.take k);rw [jB c,er] at a;rw [e9] at a b;have:min (k+1) s.length=k+1:=by omega
 have:min k s.length=k:=by omega
 cases hs:eP s[k]<;>simp [hs] at a ⊢ <;>omega
theorem oM (s:Bs) (k:Nat):(keepL (s.take k)).length<=(keepL s).length:=by
 have:keepL s=keepL (s.take k)++keepL (s.drop k):=by unfold keepL;rw [<- hZ,i1]
 rw [this,er];omega
def byteRow (l:Bs):Array gb:=(l.map λb=>hQ dz b.toNat).toArray
def iA (s:Bs) (k:Nat):Bs:=keepL (s.take k)++gs ((keepL s).length - (keepL (s.take k)).length) 0
theorem rB (s:Bs) (k:Nat):(iA s k).length=(keepL s).length:=by
 unfold iA;have:=oM s k;rw [er,List.length_replicate];omega
theorem vS (s:Bs):iA s 0=gs (keepL s).length 0:=by unfold iA;simp [keepL]
theorem yg (s:Bs):iA s s.length=keepL s:=by unfold iA;simp
theorem vT {s:Bs} {k:Nat} (b:k<s.length) (h:eP s[k]=true):iA s (k+1)=iA s k/\(keepL (s.take (k+1))).length=(keepL (s.take k)).length:=by
 have a:keepL (s.take (k+1))=keepL (s.take k):=by rw [jB b,if_pos h,hf]
 unfold iA;rw [a];exact ⟨rfl,rfl⟩
theorem yf {s:Bs} {k:Nat} (c:k<s.length) (h:eP s[k]=false):iA s (k+1)=(iA s k).set (keepL (s.take k)).length s[k]/\(keepL (s.take (k+1))).length=(keepL (s.take k)).length+1/\(keepL (s.take k)).length<(keepL s).length:=by
 have a:keepL (s.take (k+1))=keepL (s.take k)++[s[k]]:=by rw [jB c,h];rfl
 have b:=oM s (k+1);rw [a,er] at b;simp only [i2] at b;refine ⟨?_,by rw [a];simp,by omega⟩;unfold iA;rw [a,er,i2];obtain ⟨m,d⟩:∃m,(keepL s).length - (keepL (s.take k)).length=m+1:=⟨(keepL s).length - (keepL (s.take k)).length - 1,by omega⟩;have e:(keepL s).length - ((keepL (s.take k)).length+1)=m:=by omega
 rw [d,e,List.replicate_succ,List.set_append_right _ _ (em _),Nat.sub_self,List.set_cons_zero,List.append_assoc];rfl
theorem rA (l:Bs) (k:Nat) (b:UInt8):(byteRow l).setIfInBounds k (J dz b.toNat)=byteRow (l.set k b):=by
 unfold byteRow;rw [List.setIfInBounds_toArray,List.map_set]
theorem ji (l:Bs):(byteRow l).size=l.length:=by simp [byteRow]
theorem yV (n:Nat) (g:n<=1000000000) (w:e8):(Instr.makeSlice 76 (J U n) (J U n)).run prog w= .ok (cs (X ⟨w.heap.size,0,Y⟩) n n) (w.alloc (e7 (byteRow (gs n 0)) 5)):=by
 obtain ⟨i,b,d,c,a⟩:=iD (show (prog.info? 5).map (λi=>(i.zero,i.size,i.bytes))=X (X (J dz 0),1,1) by kernel_rfl);rw [run_make w 76 5 i (J dz 0) underlying76 b d U U n n (by omega) (by omega) (by rw [a];omega) (by omega)];have:madeCells (hQ dz 0).cells ((n:Int).toNat * i.size)=byteRow (gs n 0):=by
  rw [c];unfold byteRow;apply Array.ext
  · simp [madeCells]
  · intro j e f;simp [madeCells,Value.cells,Nat.mod_one]
 rw [this];rfl
structure yn (g bt rc:Nat) (W:e8):Prop where
 sep:∀b:UInt8,eP b=true->∃q k:Nat,W.cell? ⟨g,b.toNat,none⟩=some (.slice (some ⟨q,0,none⟩) 0 k)
 no:∀b:UInt8,eP b=false->W.cell? ⟨g,b.toNat,none⟩=some (.slice none 0 0)
 all:W.cell? ⟨g,256,none⟩=some (.slice (some ⟨bt,0,none⟩) 2 rc)
 one:W.cell? ⟨bt,0,none⟩=some (S [45])
 two:W.cell? ⟨bt,1,none⟩=some (S [32])
theorem l9.cells {lo g:Nat} {w:e8} (h:l9 lo w g):∃c f,∀W,Bw w W->yn g c f W:=by
 obtain ⟨z,f,k,o,l,p,m,i⟩:=h;obtain ⟨c,u,j,v,x⟩:=hI i (by omega);injection j with j _ hc
 subst j;refine ⟨c,f,λW a=>?_⟩;have d:=(a.block _ (ae m)).trans m;have n:=ah i (λq t=>a.block q (i.lt q t).2);have y:((gc (cs (X ⟨c,0,Y⟩) 2 f) (cs (X ⟨k,0,Y⟩) 0 o)).setIfInBounds 32 (cs (X ⟨l,0,Y⟩) 0 p)).size=257:=by rw [Array.size_setIfInBounds,nC]
 refine ⟨λb a=>?_,λb a=>?_,?_,?_,?_⟩
 · rcases (by simpa [eP] using a:b=32∨b=45) with rfl|rfl
   · refine ⟨l,p,(aa d _).trans ?_⟩;show ((gc _ _).setIfInBounds 32 _)[32]? =_;rw [Array.getElem?_setIfInBounds_self_of_lt (by rw [nC];omega)]
   · refine ⟨k,o,(aa d _).trans ?_⟩;show ((gc _ _).setIfInBounds 32 _)[45]? =_;rw [fc (by decide)];unfold gc;rw [Array.getElem?_setIfInBounds_self_of_lt (by rw [dU];omega)]
 · have r:b≠32:=λe=>by subst e;cases a
   have s:b≠45:=λe=>by subst e;cases a
   refine (aa d _).trans ?_;rw [fc (show (32:Nat)≠b.toNat from λe=>r (UInt8.toNat_inj.1 (show b.toNat=(32:UInt8).toNat from e.symm)))];unfold gc;rw [fc (show (45:Nat)≠b.toNat from λe=>s (UInt8.toNat_inj.1 (show b.toNat=(45:UInt8).toNat from e.symm)))];exact jO _ _ b.toNat_lt
 · refine (aa d _).trans ?_;rw [fc (by decide)];unfold gc;rw [fc (by decide)];exact kH _
 · have:=n.cellAt 0 (by simp);exact this.trans rfl
 · have:=n.cellAt 1 (by simp);exact this.trans rfl
theorem vG (a:Option Addr) (n c q k:Nat) (w:e8):(Builtin.copy_ #[76,76] 3 #[cs a n c,cs (X ⟨q,0,Y⟩) 0 k]).run prog w= .ok (J U 0) w:=by
 cases hq:prog.info? 5 with
 |none=>exact absurd hq (by decide+kernel)
 |some i=>cases a<;>simp [Builtin.copy_,run_underlying underlying76,Builtin.lenOf,Builtin.firstCells,Go.sizeOf,typeInfo,hq,loadCellsFrom,storeCells,loadCells,goInt]
theorem w64 (x:Int) (a: -9223372036854775808<=x) (b:x<=9223372036854775807):wrap64 x=x:=IntWalk.wrap64_in x ⟨a,b⟩
theorem p7 (lo g:Nat) (s:Bs) (w:e8) (h:l9 lo w g) (hs:s.length<=1000000000):fs prog 394 #[e6 (X ⟨g,0,Y⟩),S s] w λe w'=>e=dx (S (keepL s))/\Bw w w':=by
 obtain ⟨bt,rc,a9⟩:=h.cells;have D:=Z a9;have bY:g<w.heap.size:=by obtain ⟨_,_,_,_,_,_,hG,_⟩:=h;exact ae hG
 obtain ⟨K,R⟩:=Qe (keepL s);obtain ⟨N,hN⟩:=Qe K.length;obtain ⟨m,hm⟩:=Qe (decide (cntL s≠0));have l:=Z R;have E:=Z hN;have HM:=Z hm;have aS:N+cntL s=s.length:=by rw [<- hN, <- R];exact gD s
 have ao:=Z aS;have b9:N<=1000000000:=by omega
 obtain ⟨_,_,b5,t0,t1⟩:=a9 w (es _ w);rw [R];clear h a9 R hN hm aS;go_enter func394,ntmps394;go_upto_if 26 with fail
 go_cut [5,6] (λn y wx=>n=J U N/\y=dy m/\∃k,wx=w.drewN k)
 case first=>
  by_cases hL:(16:Int)<=s.length
  · have hd:decide ((16:Int)<=s.length)=true:=decide_eq_true hL;have a4:Hid (∀(c:UInt8) W,fs prog 396 #[S s,S [c]] W λe w'=>e=dx (J U (s.count c))/\w'=W):=λc W=>vF s c W;have HA:Hid (∀W,fs prog 396 #[S s,S [45]] W λe w'=>e=dx (J U (s.count 45))/\w'=W):=λW=>a4 45 W;have M:Hid (∀W,fs prog 396 #[S s,S [32]] W λe w'=>e=dx (J U (s.count 32))/\w'=W):=λW=>a4 32 W;have a2:=ao.o;have a5:=HM.o;unfold cntL at a2 a5;obtain ⟨q1,j1,b7⟩:=(D w (es _ w)).sep 45 rfl;obtain ⟨q2,j2,b6⟩:=(D w (es _ w)).sep 32 rfl;change w.cell? ⟨g,45,Y⟩=_ at b7;change w.cell? ⟨g,32,Y⟩=_ at b6;generalize s.count 45=A at *;generalize s.count 32=B at *;clear a4;have e0:IntKind.i64.wrap ((A:Int) * -1)= -(A:Int):=by rw [Int.mul_neg_one];exact gO _ (by omega)
    have e1:IntKind.i64.wrap ((s.length:Int)+ -(A:Int))=((N+B:Nat):Int):=(gO _ (by omega)).trans (by omega);have e2:IntKind.i64.wrap ((B:Int) * -1)= -(B:Int):=by rw [Int.mul_neg_one];exact gO _ (by omega)
    have e3:IntKind.i64.wrap (((N+B:Nat):Int)+ -(B:Int))=(N:Int):=(gO _ (by omega)).trans (by omega);have e4:A=0->IntKind.i64.wrap ((s.length:Int)+ -(B:Int))=(N:Int):=λh=>(gO _ (by omega)).trans (by omega);have b1:=Z e4;have L:=Z a2;have a1:=Z a5;clear e4 a2 a5;go_wp2_with fail
    refine g9 3 ?_;rw [ft];by_cases hA:A=0
    · have b8:((A:Int)!=0)=false:=by simp [hA]
      have e4:=b1 hA;have I:=Z hA;clear hA;go_wp2_with (go_at_call 396;((with_reducible refine eg (HA.o _) ?_);rintro e w1 ⟨rfl,rfl⟩))
      rw [ft];by_cases hB:B=0
      · have a3:((B:Int)!=0)=false:=by simp [hB]
        have b:Hid (s.length=N/\false=m):=⟨by have:=L.o;have:=I.o;omega,by rw [<- a1.o,I.o,hB];rfl⟩;clear hB;go_wp2_with (go_at_call 396;((with_reducible refine eg (M.o _) ?_);rintro e w1 ⟨rfl,rfl⟩))
        rw [ft];go_wp2_with fail
        go_meet;exact ⟨by rw [b.o.1],by rw [b.o.2],0,rfl⟩
      · have a3:((B:Int)!=0)=true:=by simp;omega
        have b:Hid (true=m):=by unfold Hid;rw [<- a1.o];simp;omega
        clear hB;go_wp2_with (go_at_call 396;((with_reducible refine eg (M.o _) ?_);rintro e w1 ⟨rfl,rfl⟩))
        go_region;go_wp2_with fail
        rw [ft];go_wp2_with fail
        go_meet;exact ⟨congrArg (hQ U) (by have h1:=L.o;have h2:=I.o;rw [w64 (-(B:Int)) (by omega) (by omega),w64 _ (by omega) (by omega)];omega),by rw [b.o],1,rfl⟩
    · have b8:((A:Int)!=0)=true:=by simp;omega
      have b:Hid (true=m):=by unfold Hid;rw [<- a1.o];simp;omega
      have I:=Z hA;clear hA;go_wp2_with (go_at_call 396;((with_reducible refine eg (HA.o _) ?_);rintro e w1 ⟨rfl,rfl⟩))
      go_region;go_wp2_with fail
      rw [ft];by_cases hB:B=0
      · have a3:((B:Int)!=0)=false:=by simp [hB]
        have a0:=Z hB;clear hB;go_wp2_with (go_at_call 396;((with_reducible refine eg (M.o _) ?_);rintro e w1 ⟨rfl,rfl⟩))
        rw [ft];go_wp2_with fail
        go_meet;exact ⟨congrArg (hQ U) (by have h1:=L.o;have h2:=a0.o;rw [w64 (-(A:Int)) (by omega) (by omega),w64 _ (by omega) (by omega)];omega),by rw [b.o],1,rfl⟩
      · have a3:((B:Int)!=0)=true:=by simp;omega
        clear hB;go_wp2_with (go_at_call 396;((with_reducible refine eg (M.o _) ?_);rintro e w1 ⟨rfl,rfl⟩))
        go_region;go_wp2_with fail
        rw [ft];go_wp2_with fail
        go_meet;exact ⟨congrArg (hQ U) (by have h1:=L.o;rw [w64 (-(A:Int)) (by omega) (by omega),w64 (-(B:Int)) (by omega) (by omega),w64 ((s.length:Int)+ -(A:Int)) (by omega) (by omega),w64 _ (by omega) (by omega)];omega),by rw [b.o],2,rfl⟩
  · have hd:decide ((16:Int)<=s.length)=false:=decide_eq_false hL;have bs:=ql;have bv:=ng;go_wp2_with fail
    go_loopw [5,6,10,11] (λn y i _b wr=>wr=w/\∃k:Nat,k<=s.length/\i=J U k/\n=J U ((s.length - cntL (s.take k):Nat):Int)/\y=dy (decide (cntL (s.take k)≠0))) (λ_ _ i _ _=>s.length - (intOf i).toNat)
    case atStart=>exact ⟨rfl,0,gp _,rfl,by simp [cntL],by simp [cntL]⟩
    case round=>
     obtain ⟨rfl,k,hk,rfl,rfl,rfl⟩:=hrel;by_cases hlt:k<s.length
     · have bc:(k:Int)<s.length:=by omega
       obtain ⟨x,G⟩:=Qe (s[k]);have f:=x8 hlt;rw [G] at f;have ac:cntL (s.take k)<=k:=by have:=gD (s.take k);rw [e9] at this;omega
       obtain ⟨p,F⟩:=Qe (cntL (s.take k));rw [F] at f ac ⊢;have bw:=mR x;have bA:=wt x;obtain ⟨P,o⟩:=Qe (s.length - p);obtain ⟨z,t⟩:=Qe (decide (p≠0));have HP:=Z o;have HZ:=Z t;rw [o,t];cases hsx:eP x
       · have a8:=(D wr (es _ wr)).no x hsx;rw [hsx] at f;have b:Hid (cntL (s.take (k+1))=p):=f;clear f F hsx o t;go_wp2_with fail
         go_roundw
         case rel=>exact ⟨trivial,k+1,by omega,by go_num,by rw [b.o,HP.o],by rw [b.o,HZ.o]⟩
         case measure=>simp [intOf];omega
       · obtain ⟨q,kq,a8⟩:=(D wr (es _ wr)).sep x hsx;rw [hsx] at f;have b:Hid (cntL (s.take (k+1))=p+1):=f;have hw:IntKind.i64.wrap ((P:Int)+ -1)=((P - 1:Nat):Int):=(gO _ (by omega)).trans (by omega);clear f F hsx o t;go_wp2_with fail
         go_roundw
         case rel=>exact ⟨trivial,k+1,by omega,by go_num,by rw [b.o, <- HP.o,Nat.sub_sub],by rw [b.o];rfl⟩
         case measure=>simp [intOf];omega
     · have aC:s.take k=s:=gd (by omega);rw [aC];have b:Hid (s.length - cntL s=N/\decide (cntL s≠0)=m):=⟨by have:=ao.o;omega,HM.o⟩;obtain ⟨p,F⟩:=Qe (cntL s);rw [F] at b ⊢;obtain ⟨P,o⟩:=Qe (s.length - p);obtain ⟨z,t⟩:=Qe (decide (p≠0));rw [o,t] at b ⊢;clear F o t aC;go_wp2_with fail
       go_meet;exact ⟨by rw [b.o.1],by rw [b.o.2],0,rfl⟩
 case rest=>
  obtain ⟨rfl,rfl,nq,rfl⟩:=hcut;have a7:Bw w (w.drewN nq):=bn.below (w:=w) (w':=w.drewN nq) ⟨nq, #[],by rw [Sort.grow_empty]⟩;obtain ⟨d,av⟩:=Qe (w.drewN nq);rw [av] at a7 ⊢;have O:=Z a7;clear a7 av b5 t0 t1;cases m
  · have b3:Hid (K=s):=by unfold Hid;rw [<- l.o];exact xu (by have:=HM.o;simpa using this)
    go_wp2_with fail
    go_ret;exact ⟨(by rw [b3.o];rfl),O.o⟩
  · have bk:=yV N b9 d;have c5:(0:Int)<=N:=by omega
    obtain ⟨w1,T⟩:=Qe (d.alloc (e7 (byteRow (gs N 0)) 5));have ax:Bw w w1:=by rw [<- T];exact O.o.alloc O.o.size _
    have au:w1.heap[d.heap.size]? =X (e7 (byteRow (gs N 0)) 5 (0,0)):=by rw [<- T];exact ex d _
    rw [T] at bk;have a0:=Z ax;have aT:=Z au;clear ax au T;go_wp2_with fail
    go_loopw [13,14,15] (λj i _b wr=>∃k:Nat,k<=s.length/\i=J U k/\j=J U (keepL (s.take k)).length/\Hid (Bw w wr)/\Hid (wr.heap[d.heap.size]? =X (e7 (byteRow (iA s k)) 5 (0,0)))) (λ_ i _ _=>s.length - (intOf i).toNat)
    case atStart=>exact ⟨0,gp _,rfl,by simp [keepL],a0,by unfold Hid;rw [vS,l.o,E.o];exact aT.o⟩
    case round=>
     obtain ⟨k,hk,rfl,rfl,C,v⟩:=hrel;by_cases hlt:k<s.length
     · have bc:(k:Int)<s.length:=by omega
       have ad:(keepL (s.take k)).length<=N:=by rw [<- E.o, <- l.o];exact oM s k
       obtain ⟨x,G⟩:=Qe (s[k]);have bw:=mR x;have bA:=wt x;have bs:=ql;have bv:=ng;cases hsx:eP x
       · have a8:=(D wr C.o).no x hsx;obtain ⟨H,u,V⟩:=yf hlt (by rw [G];exact hsx);rw [l.o,E.o] at V;obtain ⟨j,r⟩:=Qe ((keepL (s.take k)).length);rw [r] at H u V ad ⊢;have ac:wr.cell? ⟨d.heap.size,j,Y⟩=X ((byteRow (iA s k))[j]'(by rw [ji,rB,l.o,E.o];exact V)):=(aa v.o j).trans (Array.getElem?_eq_getElem _);have bO:=ab v.o j;have a6:=am v.o j (J dz x.toNat);rw [rA, <- G, <- H,G] at a6;have b4:=Z a6;have Q:=Z u;have b0:Hid (w.heap.size<=d.heap.size):=O.size;generalize ((byteRow (iA s k))[j]'(by rw [ji,rB,l.o,E.o];exact V))=old at ac;have c6:(j:Int)<N:=by omega
         clear H u r hsx a6;go_wp2_with fail
         go_roundw
         case rel=>exact ⟨k+1,by omega,by go_num,by rw [Q.o];go_num,C.o.setCell b0.o _,b4⟩
         case measure=>simp [intOf];omega
       · obtain ⟨q,kq,a8⟩:=(D wr C.o).sep x hsx;obtain ⟨H,u⟩:=vT hlt (by rw [G];exact hsx);obtain ⟨j,r⟩:=Qe ((keepL (s.take k)).length);rw [r] at u ad ⊢;have al:=Z H;have Q:=Z u;have bB:=λa n c=>vG a n c q kq wr.drew;clear H u r hsx;have c0:(0:Int)<=j:=by omega
         rcases Nat.lt_or_eq_of_le ad with c1|rfl
         · have c2:(j:Int)<N:=by omega
           have c3:¬(N=j):=by omega
           have c4:¬(j=N):=by omega
           go_wp2_with fail
           go_region;go_wp2_with fail
           go_roundw
           case rel=>exact ⟨k+1,by omega,by go_num,by rw [Q.o],C.o.drew,by unfold Hid;rw [al.o];exact v.o⟩
           case measure=>simp [intOf];omega
         · go_wp2_with fail
           go_region;go_wp2_with fail
           go_roundw
           case rel=>exact ⟨k+1,by omega,by go_num,by rw [Q.o],C.o.drew,by unfold Hid;rw [al.o];exact v.o⟩
           case measure=>simp [intOf];omega
     · have ay:k=s.length:=by omega
       have b2:Hid (wr.heap[d.heap.size]? =X (e7 (byteRow K) 5 (0,0))):=by have:=v.o;rw [ay,yg,l.o] at this;exact this
       have bb:=run_convert_bytes_back (P:=prog) wr 76 9 5 ⟨d.heap.size,0,Y⟩ N K underlying76 underlying5 underlying9 (λj r=>by
        have e:(⟨d.heap.size,0,Y⟩:Addr).add j=⟨d.heap.size,j,Y⟩:=by simp only [Addr.add];split<;>simp_all
        rw [e,aa b2.o j];unfold byteRow;simp [r])
       rw [E.o] at bb;clear ay;go_wp2_with fail
       go_ret;exact ⟨rfl,C.o⟩
theorem sv (p:Option Addr) (W:e8):(method 567 404 (.pointer p) "Replace").run prog W= .ok (394, .pointer p) W:=by kernel_rfl
theorem p8 (R on t:Nat) (i:Array gb) (s:Bs) (w:e8) (d:w.heap[R]? =X (e7 #[J .u32 0,J e5 0,J .u32 0, .nilIface,cs (X ⟨on,0,Y⟩) 4 t] 355 (0,0))) (h:w.heap[on]? =X (e7 (onC i) 9 (0,0))) (H:s.length<=1000000000):
 fs prog 238 #[e6 (X ⟨R,0,Y⟩),S s] w λe w'=>e=dx (S (keepL s))/\ag (λq=>q=R) w (λq=>q=R) w':=by
 have B:=ae d;have E:R≠on:=db d h (by decide);have v:=Z (AO R _ _ _ _ (xf R on t w.heap.size i B) w (λw' m=>⟨m.size,(m.block on E.symm).trans h⟩) d);clear d h;go_enter func238,ntmps238;go_upto_region 2 with (go_at_call 288;refine eg v.o ?_;rintro e b ⟨rfl,G⟩)
 obtain ⟨N,O,n,⟨r,o⟩,f,k⟩:=G;have l:ag (λq=>q=R) w (λq=>q=R) b:=((ag.of_only (F:=λq=>q=R) n rfl).trans r).trans (ag.of_only (F:=λq=>q=R) f rfl);have p:l9 w.heap.size b (w.heap.size+1):=by obtain ⟨a,c,y,I,z,K,A,j⟩:=o;exact ⟨a,c,y,I,z,K,(f.block _ (by omega)).trans A,ah j (λg D=>f.block g (λe=>by have:=(j.lt g D).1;omega))⟩
 have L:b.cell? ⟨R,3,Y⟩=X (.iface 404 (e6 (X ⟨w.heap.size+1,0,Y⟩))):=(aa k 3).trans rfl;have x:=Z l;have u:=Z (p7 w.heap.size (w.heap.size+1) s b p H);have M:=sv (X ⟨w.heap.size+1,0,Y⟩) b;clear n r o f k l p;go_wp2_with (go_at_call 394;refine eg u.o ?_;rintro e P ⟨rfl,C⟩)
 go_ret;exact ⟨rfl,x.trans (ag.of_below C)⟩
theorem fm {lo a:Nat} {w w':e8} {v:gb} {b:List af} (h:ai lo a w v b) (e:a<=w.heap.size) (c:Bw w w'):ai lo a w' v b:=h.kept λk _ d=>c.block k (by omega)
theorem nT {lo a:Nat} {w w':e8} {v:gb} {b:List cr} (h:aA lo a w v b) (e:a<=w.heap.size) (c:Bw w w'):aA lo a w' v b:=h.kept λk _ d=>c.block k (by omega)
def zeroF:af:=⟨[],[],[],[]⟩
def mh (a:Nat) (w':e8) (f:Option af) (v:gb):Prop:=∃d,v= .agg #[S (f.getD zeroF).tag,S (f.getD zeroF).ind,S (f.getD zeroF).data,d]/\aA 0 a w' d (f.getD zeroF).subs
theorem mh.up {w w':e8} {f:Option af} {v:gb} (h:mh w.heap.size w f v) (e:Bw w w'):mh w.heap.size w' f v:=by
 obtain ⟨d,a,b⟩:=h;exact ⟨d,a,b.kept λk _ c=>e.block k c⟩
theorem kV {f:af} (h:(fieldBytes f).length<=1000000) {q:cr} (a:q∈f.subs):q.text.length<=1000000:=by
 have:∀l:List cr,q∈l->q.text.length<=(l.flatMap aR).length:=by
  intro l;induction l with
  |nil=>intro h;cases h
  |cons s l ih=>
   intro h;rw [List.flatMap_cons,er];rcases List.mem_cons.1 h with rfl|h
   · simp only [aR,eQ];omega
   · have:=ih h;omega
 have:=this _ a;simp only [fieldBytes,er] at h;omega
theorem JNB {w a b:e8} (c:Bw a b) (d:a.heap.size=w.heap.size+3):iN w.heap.size a b:=c.mono (by omega)
theorem rd (a:Bs) (c:UInt8):a.contains c=decide (0<=hM a c):=Lib.contains_iff_indexByte a c
theorem eY {fn:Func} {p u:Tmp} {c:TypeId} (h:fn.results= #[.tmp u, .cell p c]) (b:Array gb) (P:Program) (w:e8):
 (results fn b).run P w=
  ((asAddr (b.getD p undef)).run P w).andThen λa d=>((loadVar c a).run P d).andThen λv e=> .ok (.tuple #[b.getD u undef,v]) e:=by
 simp only [results,h];simp [Sem.run_bind,Result.andThen]
theorem pG (k l:UInt8) (x:gb) (c:List af) (y f:Bs) (w:e8) (hs:ai 0 w.heap.size w x c) (al:bH c):
 fs prog 184 #[.agg #[J dz k.toNat,J dz l.toNat,x],S y,S f] w λe w'=>(∃v,e=dx (.tuple #[S (textF (firstF c y) f),v])/\mh w.heap.size w' (firstF c y) v)/\Bw w w':=by
 obtain ⟨m,G⟩:=Qe (((w.alloc (e7 #[J dz k.toNat,J dz l.toNat,x] 62)).alloc (e7 #[S y] 9)).alloc (e7 #[S [],S [],S [],cs Y 0 0] 123));have bw:m.heap.size=w.heap.size+3:=by rw [<- G];simp
 have Q:Bw w m:=by rw [<- G];exact (((es _ w).alloc (em _) _).alloc (by simp) _).alloc (by simp;omega) _
 have ay:ai 0 m.heap.size m x c:=(fm hs (em _) Q).mono (em _) (by omega);have hA:m.heap[w.heap.size]? =X (e7 #[J dz k.toNat,J dz l.toNat,x] 62 (0,0)):=by rw [<- G,fp _ _ _ (by simp;omega),fp _ _ _ (by simp)];exact ex w _
 have hB:m.heap[w.heap.size+1]? =X (e7 #[S y] 9 (0,0)):=by rw [<- G,fp _ _ _ (by simp)];have:=ex (w.alloc (e7 #[J dz k.toNat,J dz l.toNat,x] 62)) (e7 #[S y] 9);rwa [fx] at this
 have hC:m.heap[w.heap.size+1+1]? =X (e7 #[S [],S [],S [],cs Y 0 0] 123 (0,0)):=by rw [<- G];have:=ex ((w.alloc (e7 #[J dz k.toNat,J dz l.toNat,x] 62)).alloc (e7 #[S y] 9)) (e7 #[S [],S [],S [],cs Y 0 0] 123);rwa [fx,fx] at this
 have a4:=Z (mF (w.heap.size+1) y x c m ay al.1 (by rw [aa hB];rfl));have a2:m.cell? ⟨w.heap.size,2,Y⟩=X x:=by rw [aa hA];rfl
 have bt:=hs;have HF:=Z hs;have HA:=Z hA;have HC:=Z hC;have N:=Z Q;have HW:=Z G;clear hA hB hC ay hs Q;rcases qK y c with ⟨n,a1,hn,a0⟩|⟨a1,a0⟩
 · rw [a1,show ixI (X n)=n from rfl] at a4;rw [a0];obtain ⟨b,g,a5,d,hv,_,R,c0,c1,c2,c3,a7⟩:=bt.field n hn;subst hv;have ac:=g7 hn;have HG:Hid (mh w.heap.size w (X c[n]) (.agg #[S c[n].tag,S c[n].ind,S c[n].data,d])):=⟨d,rfl,a7⟩;have bv:c[n].subs.length<=1000000:=fz (cK _) (al.2 _ ac);have HJ:Hid ((dw (bC c[n].subs f)).length<=140737488355328):=by have h1:=kR c[n].subs f 1000000 (λq hq=>kV (al.2 _ ac) hq);have:c[n].subs.length * (1000000+1)<=1000000 * 1000001:=hF bv (em _);unfold Hid;omega
   obtain ⟨A,B,rfl,_⟩:=id a7;have b7:=Z a7;have b9:Hid (textF (X c[n]) f=textS c[n].subs f):=rfl;generalize c[n].subs=ss at *;generalize textF (X c[n]) f=RES at *;generalize c[n].tag=T at *;generalize c[n].ind=I at *;generalize c[n].data=D at *;generalize c[n]=FF at *;have c4:(n:Int)<(c.length:Int):=by omega
   clear a1 a0 ac a7;obtain ⟨i0,hi,b0,b1,ao⟩:=iD i9;have HI:=Z hi;have b3:=Z b0;have b4:=Z b1;have b5:=Z ao;clear hi b0 b1 ao;have bO:=HA.o;go_enter func184,ntmps184;go_wp2_with (go_at_call 241;((with_reducible refine eg a4.o ?_);rintro e i ⟨rfl,u⟩;have a3:i.cell? ⟨w.heap.size,2,Y⟩=X (cs (X ⟨b,g,Y⟩) c.length a5):=(((aE u).1 w.heap.size 2 (by omega)).trans a2);have d3:i.cell? ⟨b,g+n * 4+3,Y⟩=X (cs A ss.length B):=((aE u).1 b _ (by omega)).trans (((aE N.o).1 b _ R).trans c3)))
   have b8:Hid (aA 0 w.heap.size i (hV A ss.length B) ss):=nT (nT b7.o (em _) N.o) (by omega) u;have ao:=u.size;have b6:=Z u;clear d3;go_loopw [9,26] (λv j wr=>∃(q:Nat),q<=ss.length/\j=J U q/\Hid (wr.ownsRow (w.heap.size+3) 9 1 v (bC (ss.take q) f).length ((bC (ss.take q) f).map λs=>S s))/\iN (w.heap.size+3) i wr/\w.heap.size+3<=wr.heap.size) (λ_ j _=>ss.length - (intOf j).toNat)
   case atStart=>exact ⟨0,gp _,rfl,h7 _ _ _ _,es _ _,by omega⟩
   case round=>
    obtain ⟨q,hq,rfl,O,H,hz⟩:=hrel;by_cases hlt:q<ss.length
    · have aT:aA 0 w.heap.size wr (hV A ss.length B) ss:=b8.o.kept (aY H (by omega));obtain ⟨b',c5,bB,hv,_,bY,e0,e1⟩:=aT.sub q hlt;cases hv;have HN:=Z (kQ ss f q hlt);have bb:(bC (ss.take q) f).length<=1000000:=by have:=gM (ss.take q) f;rw [e9] at this;omega
      have av:Hid (∀W,fs prog 246 #[S f,J dz ss[q].code.toNat] W λe w'=>e=dx (J U (hM f ss[q].code))/\W=w'):=λW=>(strings_IndexByte ⟨f.toArray⟩ ss[q].code.toNat W).mono λe w' h=>⟨by rw [h.1];simp,h.2.symm⟩;have M:=rd f ss[q].code;clear aT;generalize ss[q].code=C at *;generalize ss[q].text=TT at *;generalize hM f C=ixc at *;generalize f.contains C=cc at *;generalize bC (ss.take q) f=L at *;have V:b'<wr.heap.size:=by omega
      cases cc
      · rw [if_neg (by simp),hf] at HN;have bs:¬(0<=ixc):=λh=>by rw [decide_eq_true h] at M;cases M
        clear M;go_wp2_with (go_at_call 246;((with_reducible refine eg (av.o _) ?_);rintro e w3 ⟨rfl,rfl⟩))
        go_roundw
        case rel=>exact ⟨q+1,by omega,by go_num,by unfold Hid;rw [HN.o];exact O.o.alloc _,H.alloc (by omega) _,by simp;omega⟩
        case measure=>simp [intOf];omega
      · rw [if_pos rfl] at HN;have bs:0<=ixc:=by
         by_cases h:0<=ixc
         · exact h
         · rw [decide_eq_false h] at M;cases M
        clear M
        go_wp2_with (first
         |(go_at_call 246;((with_reducible refine eg (av.o _) ?_);rintro e w3 ⟨rfl,rfl⟩))
         |(at_builtin;(refine hj _ rfl _ _ 81 rfl (w.heap.size+3) 9 i0 (.string ⟨#[]⟩) 1 16 underlying81 HI.o b3.o b4.o b5.o rfl hJ u9 L.length (L.map λs=>S s) ?_ ?_ ⟨wr.heap.size+1,0,Y⟩ 1 1 [S TT] ?_ ?_ ?_ ?_ ?_ ?_ ?_ ?_);(focus rfl);(focus exact ((O.o.alloc _).alloc _));(focus rfl);(focus rfl);(focus exact hE _ _ _ _);(focus simp [g5]);(focus (unfold maxLen;omega));(focus omega);(focus (simp;omega));intro v' w1 aS a9 _ _;have Q:iN (w.heap.size+3) i w1:=((H.alloc (by omega) _).alloc (by simp;omega) _).grown a9 (by simp;omega) (λj ej=>(O.o.lt j ej).1);have b2:=a9.size;have HO:=Z aS;clear aS a9))
        go_roundw
        case rel=>exact ⟨q+1,by omega,by go_num,by unfold Hid;rw [HN.o,er,gx];exact HO.o,Q,by simp at b2;omega⟩
        case measure=>simp [intOf];omega
    · have HT:Hid (bC (ss.take q) f=bC ss f):=by unfold Hid;rw [gd (by omega)]
      rw [HT.o] at O;have bb:=gM ss f;have HF:=Z (lw (w:=wr.drew) (lc O.o) (by omega) HJ.o);have b2:=hz;have r:Bw w wr:=N.o.trans ((JNB b6.o bw).trans (H.mono (by omega)));have au:=Z r;have a8:∀W,Bw wr W->(W.cell? ⟨w.heap.size,2,Y⟩=X (cs (X ⟨b,g,Y⟩) c.length a5)/\W.cell? ⟨b,g+n * 4,Y⟩=X (S T)/\W.cell? ⟨b,g+n * 4+1,Y⟩=X (S I)/\W.cell? ⟨b,g+n * 4+2,Y⟩=X (S D)/\W.cell? ⟨b,g+n * 4+3,Y⟩=X (cs A ss.length B)):=λW P=>by
       have V:b<wr.heap.size:=by omega
       have e2:wr.cell? ⟨w.heap.size,2,Y⟩=X (cs (X ⟨b,g,Y⟩) c.length a5):=by rw [World.cell?_of_block (w:=i) (a:=⟨w.heap.size,2,Y⟩) (H.block _ (by show w.heap.size<_;omega))];exact a3
       refine ⟨((aE P).1 _ _ (by omega)).trans e2,?_,?_,?_,?_⟩
       · exact ((aE P).1 _ _ V).trans (((aE r).1 _ _ R).trans c0)
       · exact ((aE P).1 _ _ V).trans (((aE r).1 _ _ R).trans c1)
       · exact ((aE P).1 _ _ V).trans (((aE r).1 _ _ R).trans c2)
       · exact ((aE P).1 _ _ V).trans (((aE r).1 _ _ R).trans c3)
      have F:=a8 wr.drew ((es _ wr).drew);have ax:=Z a8;clear a8 r;go_wp2_with fail
      refine wT (λW=>(W.cell? ⟨w.heap.size,2,Y⟩=X (cs (X ⟨b,g,Y⟩) c.length a5)/\W.cell? ⟨b,g+n * 4,Y⟩=X (S T)/\W.cell? ⟨b,g+n * 4+1,Y⟩=X (S I)/\W.cell? ⟨b,g+n * 4+2,Y⟩=X (S D)/\W.cell? ⟨b,g+n * 4+3,Y⟩=X (cs A ss.length B))) 8 ?_;refine tk 0 ?_ rfl F ?_ ?_;rotate_left;intro w' h;go_simp;rfl;refine tk 2 ?_ rfl F ?_ ?_;rotate_left;intro w' h;go_simp;rfl;refine tk 3 ?_ rfl F ?_ ?_;rotate_left;rintro w' ⟨h0,h1,h2,h3,h4⟩;go_simp;rfl;refine tk 4 ?_ rfl F ?_ ?_;rotate_left;intro w' h;go_simp;rfl;refine tk 5 ?_ rfl F ?_ ?_;rotate_left;intro w' h;go_simp;rfl;refine tk 6 ?_ rfl F ?_ ?_;rotate_left;rintro w' ⟨h0,h1,h2,h3,h4⟩;go_simp;rfl;refine Dp 1 λK z=>?_;go_simp;go_at_call 244;refine HF.mono ?_;rintro e E ⟨rfl,bk⟩;have a6:Bw wr E:=(es _ wr).drew.trans bk;refine z _ _ (λ_=>ax _ a6) ?_;clear z K;have t:E.heap[w.heap.size+1+1]? =X (e7 #[S [],S [],S [],cs Y 0 0] 123 (0,0)):=(a6.block _ (by omega)).trans ((H.block _ (by omega)).trans ((u.block _ (by omega)).trans HC.o));have z0:=ab t 0;have z1:=ab t 1;have z2:=ab t 2;have z3:=ab t 3;have y0:E.cell? ⟨w.heap.size+1+1,0,Y⟩=X (S []):=(by rw [aa t];rfl);have y1:E.cell? ⟨w.heap.size+1+1,1,Y⟩=X (S []):=(by rw [aa t];rfl);have y2:E.cell? ⟨w.heap.size+1+1,2,Y⟩=X (S []):=(by rw [aa t];rfl);have y3:E.cell? ⟨w.heap.size+1+1,3,Y⟩=X (cs Y 0 0):=(by rw [aa t];rfl);have bc:=ax _ a6;clear t;refine Ds 7 bc ?_;refine Dl 8 ?_;go_wp2;refine ha (v:= .tuple #[S (dw (bC ss f)), .agg #[S T,S I,S D,cs A ss.length B]]) (by rw [eY rfl];go_simp) rfl ?_;have r:Bw w E:=au.trans (a6.mono au.size);have aC:=(((r.setCell (p:=⟨w.heap.size+1+1,0,Y⟩) (by simp;omega) (S T)).setCell (p:=⟨w.heap.size+1+1,1,Y⟩) (by simp;omega) (S I)).setCell (p:=⟨w.heap.size+1+1,2,Y⟩) (by simp;omega) (S D)).setCell (p:=⟨w.heap.size+1+1,3,Y⟩) (by simp;omega) (cs A ss.length B);exact ⟨⟨_,by rw [b9.o];rfl,mh.up HG.o aC⟩,aC⟩
 · rw [a1,show ixI Y= -1 from rfl] at a4;rw [a0];clear a1 a0;go_enter func184,ntmps184;go_wp2_with (go_at_call 241;((with_reducible refine eg a4.o ?_);rintro e i ⟨rfl,u⟩;have o:i.heap[w.heap.size+1+1]? =X (e7 #[S [],S [],S [],cs Y 0 0] 123 (0,0)):=(u.block _ (by omega)).trans HC.o;have z0:=ab o 0;have z1:=ab o 1;have z2:=ab o 2;have z3:=ab o 3;have y0:i.cell? ⟨w.heap.size+1+1,0,Y⟩=X (S []):=(by rw [aa o];rfl);have y1:i.cell? ⟨w.heap.size+1+1,1,Y⟩=X (S []):=(by rw [aa o];rfl);have y2:i.cell? ⟨w.heap.size+1+1,2,Y⟩=X (S []):=(by rw [aa o];rfl);have y3:i.cell? ⟨w.heap.size+1+1,3,Y⟩=X (cs Y 0 0):=(by rw [aa o];rfl);have bA:=Z o;clear o))
   refine ha (v:= .tuple #[S [], .agg #[S [],S [],S [],cs Y 0 0]]) (by rw [eY rfl];go_simp) rfl ?_;have r:Bw w i:=N.trans (u.mono N.size);exact ⟨⟨_,rfl,cs Y 0 0,rfl,_,_,rfl,λh=>absurd rfl h⟩,(((r.setCell (p:=⟨w.heap.size+1+1,0,Y⟩) (by simp;omega) _).setCell (p:=⟨w.heap.size+1+1,1,Y⟩) (by simp;omega) _).setCell (p:=⟨w.heap.size+1+1,2,Y⟩) (by simp;omega) _).setCell (p:=⟨w.heap.size+1+1,3,Y⟩) (by simp;omega) _⟩
def skI (a:Bs):Nat:=match a with
 |_::c::_=>if digitB c then c.toNat - 48 else 0
 |_=>0
theorem tK (a c:UInt8) (r:Bs):skI (a::c::r)=if digitB c then c.toNat - 48 else 0:=rfl
theorem wH (f:Option af):wI f=skI (f.getD zeroF).ind:=by
 cases f with
 |none=>rfl
 |some f=> obtain ⟨t,i,d,s⟩:=f;rcases i with _|⟨a,_|⟨c,r⟩⟩<;>rfl
theorem mV (f:af) (a:Bs):(textS f.subs a).length<=(fieldBytes f).length:=by
 have c:(textS f.subs a).length<=((bC f.subs a).map λs=>s.length+1).sum:=gV _;have b:∀l:List cr,((bC l a).map λs=>s.length+1).sum<=(l.flatMap aR).length:=by
  intro l;induction l with
  |nil=>simp [bC]
  |cons s l ih=>
   rw [List.flatMap_cons,er];unfold bC at *;rw [gi];have e:(aR s).length=s.text.length+2:=by simp [aR]
   split
   · simp only [gz,g2];omega
   · omega
 have d:=b f.subs;simp only [fieldBytes,er] at *;omega
theorem gX {a:List af} {b:Bs} {f:af} (h:firstF a b=X f):f∈a:=List.mem_of_find?_eq_some h
theorem eB {a:List af} (d:bH a) (c b:Bs):(textF (firstF a c) b).length<=1000000:=by
 cases h:firstF a c with
 |none=>simp [textF]
 |some f=>exact fz (mV f b) (d.2 f (gX h))
theorem mU (k l:UInt8) (x:gb) (b:List af) (w:e8) (L:ai 0 w.heap.size w x b) (H:bH b):
 fs prog 178 #[.agg #[J dz k.toNat,J dz l.toNat,x]] w λe w'=>e=dx (S (aP b))/\Bw w w':=by
 have a0:(w.alloc (e7 #[J dz k.toNat,J dz l.toNat,x] 62)).heap.size=w.heap.size+1:=by simp
 have E:Bw w (w.alloc (e7 #[J dz k.toNat,J dz l.toNat,x] 62)):=(es _ w).alloc (em _) _;have o:=Z (pG k l x b [50,52,53] [97,98] (w.alloc (e7 #[J dz k.toNat,J dz l.toNat,x] 62)) ((fm L (em _) E).mono (em _) (by omega)) H);have M:=Z (eB H [50,52,53] [97,98]);have h:Hid (aP b=fT (textF (firstF b [50,52,53]) [97,98]) (skI ((firstF b [50,52,53]).getD zeroF).ind)):=by unfold Hid aP;rw [wH];rfl
 have t:=Z E;clear L H E;generalize textF (firstF b [50,52,53]) [97,98]=T at *;unfold mh at o;generalize (firstF b [50,52,53]).getD zeroF=g at *;obtain ⟨D,B,A,C⟩:=g;change Hid (aP b=fT T (skI B)) at h;change Hid (fs prog 184 _ _ λe w'=>(∃v,e=dx (.tuple #[S T,v])/\∃d,v= .agg #[S D,S B,S A,d]/\aA 0 _ w' d C)/\iN _ _ w') at o;have y:Hid (∀(q:Nat) (W:e8),q<=1000->fs prog 231 #[S T,J U q] W λe w'=>e=dx (S (fT T q))/\Bw W w'):=λq W N=>wF T q M.o N W;rcases B with _|⟨a,_|⟨c,r⟩⟩
 · change Hid (aP b=fT T 0) at h;go_enter func178,ntmps178
   go_wp2_with (first
    |(go_at_call 184;((with_reducible refine eg o.o ?_);rintro e i ⟨⟨v,rfl,_,rfl,p,s,rfl,_⟩,j⟩))
    |(go_at_call 231;((with_reducible refine eg (y.o 0 _ (by omega)) ?_);rintro e I ⟨rfl,m⟩)))
   go_ret;have f:Bw w i:=t.o.trans (j.mono (by simp));exact ⟨by rw [h.o];rfl,(f.alloc f.size _).trans (m.mono (by have:=f.size;simp;omega))⟩
 · change Hid (aP b=fT T 0) at h;go_enter func178,ntmps178
   go_wp2_with (first
    |(go_at_call 184;((with_reducible refine eg o.o ?_);rintro e i ⟨⟨v,rfl,_,rfl,p,s,rfl,_⟩,j⟩))
    |(go_at_call 231;((with_reducible refine eg (y.o 0 _ (by omega)) ?_);rintro e I ⟨rfl,m⟩)))
   go_ret;have f:Bw w i:=t.o.trans (j.mono (by simp));exact ⟨by rw [h.o];rfl,(f.alloc f.size _).trans (m.mono (by have:=f.size;simp;omega))⟩
 · have u:Hid (∀W,fs prog 230 #[S [c]] W λe w'=>e=dx (dy (digitB c))/\Bw W w'):=λW=>by have:=dH [c] W (by simp);rwa [show [c].all digitB=digitB c by simp] at this
   have V:(1:Int)<((a::c::r).length:Int):=by simp;omega
   by_cases hd:digitB c=true
   · have z:Hid (aP b=fT T (c.toNat - 48)):=by unfold Hid;rw [h.o];rw [tK,if_pos hd]
     rw [hd] at u;obtain ⟨O,P⟩:=dS hd;have Q:((c.toNat:Int) - 48)=((c.toNat - 48:Nat):Int):=by omega
     have R:c.toNat - 48<=9:=by omega
     clear h hd;generalize c.toNat - 48=q at *;go_enter func178,ntmps178
     go_wp2_with (first
      |(go_at_call 184;((with_reducible refine eg o.o ?_);rintro e i ⟨⟨v,rfl,_,rfl,p,s,rfl,_⟩,j⟩))
      |(go_at_call 230;((with_reducible refine eg (u.o _) ?_);rintro e K ⟨rfl,n⟩;have c1:K.cell? ⟨i.heap.size,1,Y⟩=X (S (a::c::r)):=((aE n).1 _ _ (by simp)).trans (by rw [hP];rfl)))
      |(go_at_call 231;((with_reducible refine eg (y.o q _ (by omega)) ?_);rintro e I ⟨rfl,m⟩)))
     go_ret;have f:Bw w i:=t.o.trans (j.mono (by simp));have G:=f.size;have F:=f.alloc G (e7 #[S D,S (a::c::r),S A,cs p C.length s] 123);exact ⟨by rw [z.o];rfl,(F.trans (n.mono (by simp;omega))).trans (m.mono (by have:=n.size;simp at this;omega))⟩
   · have z:Hid (aP b=fT T 0):=by unfold Hid;rw [h.o];rw [tK,if_neg hd]
     rw [show digitB c=false by simpa using hd] at u;clear h hd;go_enter func178,ntmps178
     go_wp2_with (first
      |(go_at_call 184;((with_reducible refine eg o.o ?_);rintro e i ⟨⟨v,rfl,_,rfl,p,s,rfl,_⟩,j⟩))
      |(go_at_call 230;((with_reducible refine eg (u.o _) ?_);rintro e K ⟨rfl,n⟩;have c1:K.cell? ⟨i.heap.size,1,Y⟩=X (S (a::c::r)):=((aE n).1 _ _ (by simp)).trans (by rw [hP];rfl)))
      |(go_at_call 231;((with_reducible refine eg (y.o 0 _ (by omega)) ?_);rintro e I ⟨rfl,m⟩)))
     go_ret;have f:Bw w i:=t.o.trans (j.mono (by simp));have G:=f.size;have F:=f.alloc G (e7 #[S D,S (a::c::r),S A,cs p C.length s] 123);exact ⟨by rw [z.o];rfl,(F.trans (n.mono (by simp;omega))).trans (m.mono (by have:=n.size;simp at this;omega))⟩
theorem bK {fn:Func} {p u:Tmp} {c:TypeId} (h:fn.results= #[.cell p c, .tmp u]) (b:Array gb) (P:Program) (w:e8):
 (results fn b).run P w=
  ((asAddr (b.getD p undef)).run P w).andThen λa d=>((loadVar c a).run P d).andThen λv e=> .ok (.tuple #[v,b.getD u undef]) e:=by
 simp only [results,h];simp [Sem.run_bind,Result.andThen]
theorem nn (k l:UInt8) (x:gb) (c:List af) (j:Bs) (w:e8) (E:ai 0 w.heap.size w x c) (W:c.length<=1000000):
 fs prog 181 #[.agg #[J dz k.toNat,J dz l.toNat,x],S j] w λe w'=>(∃v,e=dx (.tuple #[v,dy (firstF c j).isSome])/\mh w.heap.size w' (firstF c j) v)/\Bw w w':=by
 obtain ⟨g,o⟩:=Qe (((w.alloc (e7 #[J dz k.toNat,J dz l.toNat,x] 62)).alloc (e7 #[S j] 9)).alloc (e7 #[S [],S [],S [],cs Y 0 0] 123));have a4:g.heap.size=w.heap.size+3:=by rw [<- o];simp
 have B:Bw w g:=by rw [<- o];exact (((es _ w).alloc (em _) _).alloc (by simp) _).alloc (by simp;omega) _
 have L:ai 0 g.heap.size g x c:=(fm E (em _) B).mono (em _) (by omega);have A:g.heap[w.heap.size]? =X (e7 #[J dz k.toNat,J dz l.toNat,x] 62 (0,0)):=by rw [<- o,fp _ _ _ (by simp;omega),fp _ _ _ (by simp)];exact ex w _
 have H:g.heap[w.heap.size+1]? =X (e7 #[S j] 9 (0,0)):=by rw [<- o,fp _ _ _ (by simp)];have:=ex (w.alloc (e7 #[J dz k.toNat,J dz l.toNat,x] 62)) (e7 #[S j] 9);rwa [fx] at this
 have K:g.heap[w.heap.size+1+1]? =X (e7 #[S [],S [],S [],cs Y 0 0] 123 (0,0)):=by rw [<- o];have:=ex ((w.alloc (e7 #[J dz k.toNat,J dz l.toNat,x] 62)).alloc (e7 #[S j] 9)) (e7 #[S [],S [],S [],cs Y 0 0] 123);rwa [fx,fx] at this
 have t:=Z (mG (w.heap.size+1) j x c g L W (by rw [aa H];rfl));have O:g.cell? ⟨w.heap.size,2,Y⟩=X x:=by rw [aa A];rfl
 have a0:=E;have HA:=Z A;have G:=Z K;have m:=Z B;clear A H K L E B;rcases qK j c with ⟨n,r,V,q⟩|⟨r,q⟩
 · rw [r,show ixI (X n)=n from rfl] at t;rw [q];obtain ⟨b,s,R,d,hv,_,u,P,c1,c2,Q,F⟩:=a0.field n V;subst hv;have N:Hid (mh w.heap.size w (X c[n]) (.agg #[S c[n].tag,S c[n].ind,S c[n].data,d])):=⟨d,rfl,F⟩;obtain ⟨y,z,rfl,_⟩:=id F;generalize c[n].subs=ss at *;generalize c[n].tag=T at *;generalize c[n].ind=I at *;generalize c[n].data=D at *;generalize c[n]=FF at *;have a1:(n:Int)<(c.length:Int):=by omega
   clear r q F;go_enter func181,ntmps181;go_wp2_with (go_at_call 241;((with_reducible refine eg t.o ?_);rintro e f ⟨rfl,i⟩;have a3:f.cell? ⟨w.heap.size,2,Y⟩=X (cs (X ⟨b,s,Y⟩) c.length R):=(((aE i).1 w.heap.size 2 (by omega)).trans O);have e0:f.cell? ⟨b,s+n * 4,Y⟩=X (S T):=((aE i).1 b _ (by omega)).trans (((aE m.o).1 b _ u).trans P);have e1:f.cell? ⟨b,s+n * 4+1,Y⟩=X (S I):=((aE i).1 b _ (by omega)).trans (((aE m.o).1 b _ u).trans c1);have e2:f.cell? ⟨b,s+n * 4+2,Y⟩=X (S D):=((aE i).1 b _ (by omega)).trans (((aE m.o).1 b _ u).trans c2);have e3:f.cell? ⟨b,s+n * 4+3,Y⟩=X (cs y ss.length z):=((aE i).1 b _ (by omega)).trans (((aE m.o).1 b _ u).trans Q);have a:f.heap[w.heap.size+1+1]? =X (e7 #[S [],S [],S [],cs Y 0 0] 123 (0,0)):=(i.block _ (by omega)).trans G.o;have z0:=ab a 0;have z1:=ab a 1;have z2:=ab a 2;have z3:=ab a 3;have y0:f.cell? ⟨w.heap.size+1+1,0,Y⟩=X (S []):=(by rw [aa a];rfl);have y1:f.cell? ⟨w.heap.size+1+1,1,Y⟩=X (S []):=(by rw [aa a];rfl);have y2:f.cell? ⟨w.heap.size+1+1,2,Y⟩=X (S []):=(by rw [aa a];rfl);have y3:f.cell? ⟨w.heap.size+1+1,3,Y⟩=X (cs Y 0 0):=(by rw [aa a];rfl);clear a))
   refine ha (v:= .tuple #[.agg #[S T,S I,S D,cs y ss.length z],dy true]) (by rw [bK rfl];go_simp) rfl ?_;have C:Bw w f:=m.trans (i.mono m.size);have M:=(((C.setCell (p:=⟨w.heap.size+1+1,0,Y⟩) (by simp;omega) (S T)).setCell (p:=⟨w.heap.size+1+1,1,Y⟩) (by simp;omega) (S I)).setCell (p:=⟨w.heap.size+1+1,2,Y⟩) (by simp;omega) (S D)).setCell (p:=⟨w.heap.size+1+1,3,Y⟩) (by simp;omega) (cs y ss.length z);exact ⟨⟨_,rfl,mh.up N.o M⟩,M⟩
 · rw [r,show ixI Y= -1 from rfl] at t;rw [q];clear r q;go_enter func181,ntmps181;go_wp2_with (go_at_call 241;((with_reducible refine eg t.o ?_);rintro e f ⟨rfl,i⟩;have a:f.heap[w.heap.size+1+1]? =X (e7 #[S [],S [],S [],cs Y 0 0] 123 (0,0)):=(i.block _ (by omega)).trans G.o;have z0:=ab a 0;have z1:=ab a 1;have z2:=ab a 2;have z3:=ab a 3;have y0:f.cell? ⟨w.heap.size+1+1,0,Y⟩=X (S []):=(by rw [aa a];rfl);have y1:f.cell? ⟨w.heap.size+1+1,1,Y⟩=X (S []):=(by rw [aa a];rfl);have y2:f.cell? ⟨w.heap.size+1+1,2,Y⟩=X (S []):=(by rw [aa a];rfl);have y3:f.cell? ⟨w.heap.size+1+1,3,Y⟩=X (cs Y 0 0):=(by rw [aa a];rfl);clear a))
   refine ha (v:= .tuple #[.agg #[S [],S [],S [],cs Y 0 0],dy false]) (by rw [bK rfl];go_simp) rfl ?_;have C:Bw w f:=m.trans (i.mono m.size);exact ⟨⟨_,rfl,cs Y 0 0,rfl,_,_,rfl,λh=>absurd rfl h⟩,(((C.setCell (p:=⟨w.heap.size+1+1,0,Y⟩) (by simp;omega) _).setCell (p:=⟨w.heap.size+1+1,1,Y⟩) (by simp;omega) _).setCell (p:=⟨w.heap.size+1+1,2,Y⟩) (by simp;omega) _).setCell (p:=⟨w.heap.size+1+1,3,Y⟩) (by simp;omega) _⟩
theorem mD (s:Bs) (h:s.length≠4):aN s= -1:=by unfold aN;rw [if_neg λa=>h a.1]
theorem ei:∀s:Bs,s.length<4->bl s= -1
 |[],_=>rfl
 |c::l,h=>by
  unfold bl
  have:aN ((c::l).take 4)= -1:=mD _ (by rw [e9];simp only [eQ] at *;omega)
  rw [this,if_neg (by omega)]
  exact ei l (by simp only [eQ] at h;omega)
theorem gg (s:Bs) (k:Nat) (h:k<s.length):bl (s.drop k)=if 0<=aN ((s.drop k).take 4) then aN ((s.drop k).take 4) else bl (s.drop (k+1)):=by
 rw [hu h];rfl
theorem mW (o:Option af) (a:Bs):textF o a=textS (o.getD zeroF).subs a:=by
 cases o<;>rfl
theorem aA.up2 {c:Nat} {w w':e8} {v:gb} {d:List cr} (h:aA 0 c w v d) (a:Bw w w') (b:c<=w.heap.size):aA 0 w'.heap.size w' v d:=
 (nT h b a).mono (em _) (fz b a.size)
theorem ba (w:e8) (o:Obj):Bw w (w.alloc o):=(es _ w).alloc (em _) _
theorem wd (k l:UInt8) (x:gb) (b:List af) (w:e8) (hs:ai 0 w.heap.size w x b) (a3:bH b):
 fs prog 179 #[.agg #[J dz k.toNat,J dz l.toNat,x]] w λe w'=>e=dx (J U (bz b))/\Bw w w':=by
 have HS:=Z hs;have n:Hid (∀W,iN (w.heap.size+1) (w.alloc (e7 #[J dz k.toNat,J dz l.toNat,x] 62)) W->W.cell? ⟨w.heap.size,0,Y⟩=X (J dz k.toNat)/\W.cell? ⟨w.heap.size,1,Y⟩=X (J dz l.toNat)/\W.cell? ⟨w.heap.size,2,Y⟩=X x):=λW h=>by have:W.heap[w.heap.size]? =X (e7 #[J dz k.toNat,J dz l.toNat,x] 62 (0,0)):=(h.block _ (by omega)).trans (ex w _);exact ⟨by rw [aa this];rfl,by rw [aa this];rfl,by rw [aa this];rfl⟩
 have H1:Hid (∀(p:Bs) (W:e8),Bw w W->fs prog 181 #[.agg #[J dz k.toNat,J dz l.toNat,x],S p] W λe w'=>(∃v,e=dx (.tuple #[v,dy (firstF b p).isSome])/\∃d,v= .agg #[S ((firstF b p).getD zeroF).tag,S ((firstF b p).getD zeroF).ind,S ((firstF b p).getD zeroF).data,d]/\aA 0 W.heap.size w' d ((firstF b p).getD zeroF).subs)/\Bw W w'):=λp W j=>
  nn k l x b p W ((fm HS.o (em _) j).mono (em _) j.size) a3.1
 have a0:Hid (∀p,((firstF b p).getD zeroF).subs.length<=1000000/\(∀s∈((firstF b p).getD zeroF).subs,s.text.length<=1000000)/\(textS ((firstF b p).getD zeroF).subs [99]).length<=1000000/\((firstF b p).getD zeroF).data.length<=1000000):=λp=>by
  cases h:firstF b p with
  |none=>exact ⟨by simp [zeroF],by simp [zeroF],by simp [zeroF,textS,dw],by simp [zeroF]⟩
  |some f=>
   have hm:=a3.2 f (gX h);refine ⟨fz (cK f) hm,λs hs=>kV hm hs,fz (mV f [99]) hm,?_⟩;have:f.data.length<=(fieldBytes f).length:=by simp only [fieldBytes,er];omega
   exact fz this hm
 have HY:Hid (bz b=if 0<=iJ b then iJ b else bl (textS ((firstF b [50,54,48]).getD zeroF).subs [99])):=by unfold Hid bz;rw [mW];rfl
 have a1:Hid (iJ b=if (firstF b [48,48,56]).isSome=true/\11<=((firstF b [48,48,56]).getD zeroF).data.length then aN ((((firstF b [48,48,56]).getD zeroF).data.take 11).drop 7) else -1):=by
  unfold Hid iJ;show (match firstF b [48,48,56] with |some f=>_|none=>_)=_;cases firstF b [48,48,56] with
  |none=>rfl
  |some f=>simp [A4]
 have H2:Hid (∀W,Bw w W->fs prog 181 #[.agg #[J dz k.toNat,J dz l.toNat,x],S [50,54,48]] W λe w'=>(∃v,e=dx (.tuple #[v,dy (firstF b [50,54,48]).isSome])/\∃d,v= .agg #[S ((firstF b [50,54,48]).getD zeroF).tag,S ((firstF b [50,54,48]).getD zeroF).ind,S ((firstF b [50,54,48]).getD zeroF).data,d]/\aA 0 W.heap.size w' d ((firstF b [50,54,48]).getD zeroF).subs)/\Bw W w'):=H1.o [50,54,48];have H0:=Z (H1.o [48,48,56]);obtain ⟨m1,m2,m3,_⟩:=a0.o [50,54,48];obtain ⟨_,_,_,m4⟩:=a0.o [48,48,56]
 have H3:Hid (∀(a i D:Bs) (W:e8) (d:gb),aA 0 W.heap.size W d ((firstF b [50,54,48]).getD zeroF).subs->fs prog 183 #[.agg #[S a,S i,S D,d],J dz 99] W λe w'=>e=dx (S (textS ((firstF b [50,54,48]).getD zeroF).subs [99]))/\Bw W w'):=λa i D W d h=>
  pH a i D d _ 99 W h m1 m2
 have HN:Hid (∀(s:Bs) (W:e8),s.length<=1000000->fs prog 232 #[S s] W λe w'=>e=dx (J U (aN s))/\Bw W w'):=λs W h=>sr s W h;clear H1 a0 hs a3 m2;generalize (firstF b [50,54,48]).isSome=b6 at *;generalize (firstF b [48,48,56]).isSome=b8 at *;generalize (firstF b [50,54,48]).getD zeroF=g6 at *;generalize (firstF b [48,48,56]).getD zeroF=g8 at *;obtain ⟨t6,i6,d6,s6⟩:=g6;obtain ⟨t8,i8,I,s8⟩:=g8;dsimp only at *;generalize textS s6 [99]=T at *;have A:Hid (Bw w (w.alloc (e7 #[J dz k.toNat,J dz l.toNat,x] 62))):=(es _ w).alloc (em _) _;have au:(w.alloc (e7 #[J dz k.toNat,J dz l.toNat,x] 62)).heap.size=w.heap.size+1:=by simp
 cases b8
 · have B:Hid (bz b=bl T):=by unfold Hid;rw [HY.o,a1.o,if_neg (by simp)]
   go_enter func179,ntmps179
   go_wp2_with (first
    |(go_at_call 181;((with_reducible refine eg (H0.o _ A.o) ?_);rintro e g ⟨⟨v,rfl,dd,rfl,m⟩,u⟩;obtain ⟨ad,cp,rfl,_⟩:=m;have c:Hid (∀o,iN (w.heap.size+1) (w.alloc (e7 #[J dz k.toNat,J dz l.toNat,x] 62)) (g.alloc o)):=λo=>(u.mono (by omega)).alloc (by have:=u.size;omega) o;have C:Hid (∀o,Bw w (g.alloc o)):=λo=>A.o.trans ((c.o o).mono (by omega));have xa:∀o,(g.alloc o).cell? ⟨w.heap.size,0,Y⟩=X (J dz k.toNat):=λo=>(n.o _ (c.o o)).1;have xb:∀o,(g.alloc o).cell? ⟨w.heap.size,1,Y⟩=X (J dz l.toNat):=λo=>(n.o _ (c.o o)).2.1;have xc:∀o,(g.alloc o).cell? ⟨w.heap.size,2,Y⟩=X x:=λo=>(n.o _ (c.o o)).2.2))
    |(go_at_call 181;((with_reducible refine eg (H2.o _ (C.o _)) ?_);rintro e R ⟨⟨v5,rfl,d5,rfl,m⟩,G⟩;obtain ⟨a6,a7,rfl,_⟩:=id m;have M:=Z m;clear m))
    |(go_at_call 183;((with_reducible refine eg (H3.o _ _ _ _ _ (M.o.up2 (ba _ _) G.size)) ?_);rintro e V ⟨rfl,N⟩)))
   have y:Bw w R:=btr (C _) G ((C _)).size;have O:Bw w V:=btr (y.alloc y.size _) N (by have:=y.size;simp;omega);go_loopw [9,10] (λi _n wr=>∃q:Nat,q<=T.length/\i=J U q/\Hid (bl T=bl (T.drop q))/\Bw w wr) (λi _ _=>T.length - (intOf i).toNat)
   case atStart=>exact ⟨0,gp _,rfl,rfl,O⟩
   case round=>
    obtain ⟨q,hq,rfl,t,j⟩:=hrel;by_cases hlt:q+4<=T.length
    · have P:(q:Int)+4<=(T.length:Int):=by omega
      have H:((T.take (q+4)).drop q)=(T.drop q).take 4:=by rw [List.take_drop]
      have r:Hid (bl (T.drop q)=if 0<=aN ((T.take (q+4)).drop q) then aN ((T.take (q+4)).drop q) else bl (T.drop (q+1))):=by unfold Hid;rw [gg T q (by omega),H]
      have F:Hid (∀W,fs prog 232 #[S ((T.take (q+4)).drop q)] W λe w'=>e=dx (J U (aN ((T.take (q+4)).drop q)))/\Bw W w'):=λW=>HN.o _ W (by rw [fr,e9];omega);clear H;generalize aN ((T.take (q+4)).drop q)=nf at *;by_cases hnf:0<=nf
      · rw [if_pos hnf] at r;go_wp2_with (go_at_call 232;((with_reducible refine eg (F.o _) ?_);rintro e w7 ⟨rfl,z⟩))
        go_ret;exact ⟨aH (by rw [B.o,t.o,r.o]),btr j z j.size⟩
      · rw [if_neg hnf] at r;go_wp2_with (go_at_call 232;((with_reducible refine eg (F.o _) ?_);rintro e w7 ⟨rfl,z⟩))
        go_roundw
        case rel=>exact ⟨q+1,by omega,by go_num,by unfold Hid;rw [t.o,r.o],btr j z j.size⟩
        case measure=>simp [intOf];omega
    · have P:¬((q:Int)+4<=(T.length:Int)):=by omega
      have L:Hid (bl (T.drop q)= -1):=ei _ (by rw [fr];omega);go_wp2_with fail
      go_ret;exact ⟨aH (by rw [B.o,t.o,L.o]),j⟩
 · by_cases h11:11<=I.length
   · have a9:(11:Int)<=(I.length:Int):=by omega
     have a5:Hid (iJ b=aN ((I.take 11).drop 7)):=by unfold Hid;rw [a1.o,if_pos ⟨rfl,h11⟩]
     have a4:Hid (∀W,fs prog 232 #[S ((I.take 11).drop 7)] W λe w'=>e=dx (J U (aN ((I.take 11).drop 7)))/\Bw W w'):=λW=>HN.o _ W (by rw [fr,e9];omega);generalize aN ((I.take 11).drop 7)=nf8 at *;by_cases hnf8:0<=nf8
     · have B:Hid (bz b=nf8):=by unfold Hid;rw [HY.o,a5.o,if_pos hnf8]
       go_enter func179,ntmps179
       go_wp2_with (first
        |(go_at_call 181;((with_reducible refine eg (H0.o _ A.o) ?_);rintro e g ⟨⟨v,rfl,dd,rfl,m⟩,u⟩;obtain ⟨ad,cp,rfl,_⟩:=m;have c:Hid (∀o,iN (w.heap.size+1) (w.alloc (e7 #[J dz k.toNat,J dz l.toNat,x] 62)) (g.alloc o)):=λo=>(u.mono (by omega)).alloc (by have:=u.size;omega) o;have C:Hid (∀o,Bw w (g.alloc o)):=λo=>A.o.trans ((c.o o).mono (by omega));have xa:∀o,(g.alloc o).cell? ⟨w.heap.size,0,Y⟩=X (J dz k.toNat):=λo=>(n.o _ (c.o o)).1;have xb:∀o,(g.alloc o).cell? ⟨w.heap.size,1,Y⟩=X (J dz l.toNat):=λo=>(n.o _ (c.o o)).2.1;have xc:∀o,(g.alloc o).cell? ⟨w.heap.size,2,Y⟩=X x:=λo=>(n.o _ (c.o o)).2.2))
        |(go_at_call 232;((with_reducible refine eg (a4.o _) ?_);rintro e Q ⟨rfl,a2⟩;have E:iN (w.heap.size+1) (w.alloc (e7 #[J dz k.toNat,J dz l.toNat,x] 62)) Q:=btr (c.o _) a2 (by have:=(c.o (e7 #[] 0)).size;simp at this ⊢;omega);have K:Hid (Bw w Q):=A.o.trans (E.mono (by omega));have ac:=(n.o _ E).1;have al:=(n.o _ E).2.1;have ao:=(n.o _ E).2.2)))
       go_ret;exact ⟨aH B.symm,K.o⟩
     · have B:Hid (bz b=bl T):=by unfold Hid;rw [HY.o,a5.o,if_neg hnf8]
       go_enter func179,ntmps179
       go_wp2_with (first
        |(go_at_call 181;((with_reducible refine eg (H0.o _ A.o) ?_);rintro e g ⟨⟨v,rfl,dd,rfl,m⟩,u⟩;obtain ⟨ad,cp,rfl,_⟩:=m;have c:Hid (∀o,iN (w.heap.size+1) (w.alloc (e7 #[J dz k.toNat,J dz l.toNat,x] 62)) (g.alloc o)):=λo=>(u.mono (by omega)).alloc (by have:=u.size;omega) o;have C:Hid (∀o,Bw w (g.alloc o)):=λo=>A.o.trans ((c.o o).mono (by omega));have xa:∀o,(g.alloc o).cell? ⟨w.heap.size,0,Y⟩=X (J dz k.toNat):=λo=>(n.o _ (c.o o)).1;have xb:∀o,(g.alloc o).cell? ⟨w.heap.size,1,Y⟩=X (J dz l.toNat):=λo=>(n.o _ (c.o o)).2.1;have xc:∀o,(g.alloc o).cell? ⟨w.heap.size,2,Y⟩=X x:=λo=>(n.o _ (c.o o)).2.2))
        |(go_at_call 232;((with_reducible refine eg (a4.o _) ?_);rintro e Q ⟨rfl,a2⟩;have E:iN (w.heap.size+1) (w.alloc (e7 #[J dz k.toNat,J dz l.toNat,x] 62)) Q:=btr (c.o _) a2 (by have:=(c.o (e7 #[] 0)).size;simp at this ⊢;omega);have K:Hid (Bw w Q):=A.o.trans (E.mono (by omega));have ac:=(n.o _ E).1;have al:=(n.o _ E).2.1;have ao:=(n.o _ E).2.2))
        |(go_at_call 181;((with_reducible refine eg (H2.o _ K.o) ?_);rintro e R ⟨⟨v5,rfl,d5,rfl,m⟩,G⟩;obtain ⟨a6,a7,rfl,_⟩:=id m;have M:=Z m;clear m))
        |(go_at_call 183;((with_reducible refine eg (H3.o _ _ _ _ _ (M.o.up2 (ba _ _) G.size)) ?_);rintro e V ⟨rfl,N⟩)))
       have y:Bw w R:=btr K.o G (K.o).size;have O:Bw w V:=btr (y.alloc y.size _) N (by have:=y.size;simp;omega);go_loopw [9,10] (λi _n wr=>∃q:Nat,q<=T.length/\i=J U q/\Hid (bl T=bl (T.drop q))/\Bw w wr) (λi _ _=>T.length - (intOf i).toNat)
       case atStart=>exact ⟨0,gp _,rfl,rfl,O⟩
       case round=>
        obtain ⟨q,hq,rfl,t,j⟩:=hrel;by_cases hlt:q+4<=T.length
        · have P:(q:Int)+4<=(T.length:Int):=by omega
          have H:((T.take (q+4)).drop q)=(T.drop q).take 4:=by rw [List.take_drop]
          have r:Hid (bl (T.drop q)=if 0<=aN ((T.take (q+4)).drop q) then aN ((T.take (q+4)).drop q) else bl (T.drop (q+1))):=by unfold Hid;rw [gg T q (by omega),H]
          have F:Hid (∀W,fs prog 232 #[S ((T.take (q+4)).drop q)] W λe w'=>e=dx (J U (aN ((T.take (q+4)).drop q)))/\Bw W w'):=λW=>HN.o _ W (by rw [fr,e9];omega);clear H;generalize aN ((T.take (q+4)).drop q)=nf at *;by_cases hnf:0<=nf
          · rw [if_pos hnf] at r;go_wp2_with (go_at_call 232;((with_reducible refine eg (F.o _) ?_);rintro e w7 ⟨rfl,z⟩))
            go_ret;exact ⟨aH (by rw [B.o,t.o,r.o]),btr j z j.size⟩
          · rw [if_neg hnf] at r;go_wp2_with (go_at_call 232;((with_reducible refine eg (F.o _) ?_);rintro e w7 ⟨rfl,z⟩))
            go_roundw
            case rel=>exact ⟨q+1,by omega,by go_num,by unfold Hid;rw [t.o,r.o],btr j z j.size⟩
            case measure=>simp [intOf];omega
        · have P:¬((q:Int)+4<=(T.length:Int)):=by omega
          have L:Hid (bl (T.drop q)= -1):=ei _ (by rw [fr];omega);go_wp2_with fail
          go_ret;exact ⟨aH (by rw [B.o,t.o,L.o]),j⟩
   · have a9:¬((11:Int)<=(I.length:Int)):=by omega
     have a8:iJ b= -1:=by rw [a1.o,if_neg (λh=>h11 h.2)]
     have B:Hid (bz b=bl T):=by unfold Hid;rw [HY.o,a8,if_neg (by omega)]
     clear a8;go_enter func179,ntmps179
     go_wp2_with (first
      |(go_at_call 181;((with_reducible refine eg (H0.o _ A.o) ?_);rintro e g ⟨⟨v,rfl,dd,rfl,m⟩,u⟩;obtain ⟨ad,cp,rfl,_⟩:=m;have c:Hid (∀o,iN (w.heap.size+1) (w.alloc (e7 #[J dz k.toNat,J dz l.toNat,x] 62)) (g.alloc o)):=λo=>(u.mono (by omega)).alloc (by have:=u.size;omega) o;have C:Hid (∀o,Bw w (g.alloc o)):=λo=>A.o.trans ((c.o o).mono (by omega));have xa:∀o,(g.alloc o).cell? ⟨w.heap.size,0,Y⟩=X (J dz k.toNat):=λo=>(n.o _ (c.o o)).1;have xb:∀o,(g.alloc o).cell? ⟨w.heap.size,1,Y⟩=X (J dz l.toNat):=λo=>(n.o _ (c.o o)).2.1;have xc:∀o,(g.alloc o).cell? ⟨w.heap.size,2,Y⟩=X x:=λo=>(n.o _ (c.o o)).2.2))
      |(go_at_call 181;((with_reducible refine eg (H2.o _ (C.o _)) ?_);rintro e R ⟨⟨v5,rfl,d5,rfl,m⟩,G⟩;obtain ⟨a6,a7,rfl,_⟩:=id m;have M:=Z m;clear m))
      |(go_at_call 183;((with_reducible refine eg (H3.o _ _ _ _ _ (M.o.up2 (ba _ _) G.size)) ?_);rintro e V ⟨rfl,N⟩)))
     have y:Bw w R:=btr (C _) G ((C _)).size;have O:Bw w V:=btr (y.alloc y.size _) N (by have:=y.size;simp;omega);go_loopw [9,10] (λi _n wr=>∃q:Nat,q<=T.length/\i=J U q/\Hid (bl T=bl (T.drop q))/\Bw w wr) (λi _ _=>T.length - (intOf i).toNat)
     case atStart=>exact ⟨0,gp _,rfl,rfl,O⟩
     case round=>
      obtain ⟨q,hq,rfl,t,j⟩:=hrel;by_cases hlt:q+4<=T.length
      · have P:(q:Int)+4<=(T.length:Int):=by omega
        have H:((T.take (q+4)).drop q)=(T.drop q).take 4:=by rw [List.take_drop]
        have r:Hid (bl (T.drop q)=if 0<=aN ((T.take (q+4)).drop q) then aN ((T.take (q+4)).drop q) else bl (T.drop (q+1))):=by unfold Hid;rw [gg T q (by omega),H]
        have F:Hid (∀W,fs prog 232 #[S ((T.take (q+4)).drop q)] W λe w'=>e=dx (J U (aN ((T.take (q+4)).drop q)))/\Bw W w'):=λW=>HN.o _ W (by rw [fr,e9];omega);clear H;generalize aN ((T.take (q+4)).drop q)=nf at *;by_cases hnf:0<=nf
        · rw [if_pos hnf] at r;go_wp2_with (go_at_call 232;((with_reducible refine eg (F.o _) ?_);rintro e w7 ⟨rfl,z⟩))
          go_ret;exact ⟨aH (by rw [B.o,t.o,r.o]),btr j z j.size⟩
        · rw [if_neg hnf] at r;go_wp2_with (go_at_call 232;((with_reducible refine eg (F.o _) ?_);rintro e w7 ⟨rfl,z⟩))
          go_roundw
          case rel=>exact ⟨q+1,by omega,by go_num,by unfold Hid;rw [t.o,r.o],btr j z j.size⟩
          case measure=>simp [intOf];omega
      · have P:¬((q:Int)+4<=(T.length:Int)):=by omega
        have L:Hid (bl (T.drop q)= -1):=ei _ (by rw [fr];omega);go_wp2_with fail
        go_ret;exact ⟨aH (by rw [B.o,t.o,L.o]),j⟩
end
end Go.Proofs.YtjcimanddakkaaaGreatDoor
