/- Lemmas. -/
import Derived.Test.YtjcimanddakkaaaGreatDoorQ12
import Derived.Test.YtjcimanddakkaaaGreatDoorQ15
import Derived.Lib.TrimAscii
import Derived.Lib.ConvBytes
set_option maxRecDepth 100000
set_option maxHeartbeats 8000000
namespace Go.Proofs.YtjcimanddakkaaaGreatDoor
open Go.Value renaming slice→di,bool→dn,int→J,pointer→dx
open _root_.Option renaming some→X,none→Y
open Go.Ending renaming returned→dk
open Go.Lib renaming hid→Z
open Go.IntKind renaming u8→dp,i64→U,i32→ds
open Go.Obj renaming cells→dy
open Tryz
open Go.Calls renaming mono→dz
open _root_.Nat renaming le_refl→ee,le_trans→fr,zero_le→fz,zero_add→hb,mul_le_mul→hf,one_pos→ho
open _root_.List renaming length_append→eg,length_cons→es,length_take→eQ,length_drop→e8,take_of_length_le→ft,filter_cons→fx,length_map→gb,replicate→gc,drop_of_length_le→gd,map_append→gi,map_cons→gp,mem_cons_of_mem→gs,takeWhile_cons→gx,sum_cons→gz,mem_cons_self→gO,take_succ_eq_append_getElem→gP,getElem_mem→g0,length_nil→g4,append_nil→g5,getD_eq_getElem?_getD→ha,drop_eq_getElem_cons→he,length→hh,all_eq_true→ht,take_succ_cons→hJ,getD_cons_succ→hK,filter_append→hO,eq_nil_of_length_eq_zero→hQ,map→hV,nil_append→hW,getElem?_eq_getElem→ib,take_append_drop→iv,length_singleton→iD,length_filter_le→iF,mem_of_mem_take→iP,getD_cons_zero→i1,map_singleton→i4
open Go.RowKit.Below renaming refl→em,heap_alloc→e7,heap_setCell→gy
open Go.World renaming alloc_heap_new→er,size_alloc→fl,cell?_alloc_new→hF,iterPos→hM,ownsRow_nil→hP
open Go renaming World→ex,Calls→e9,rounds_succ→fc,Value→fs,wp_loop_rounds→g1,bodyPost_ret→g2,wpList_append_own_at→g9,info_parts→hY
open _root_.Array renaming getElem?_setIfInBounds_ne→e5,getElem?_append_left→g7,getElem?_eq_none→it,length_toList→iS
open _root_.UInt8 renaming ofNat→e6,ofNat_toNat→i2
open Go.Utf8 renaming decode→fp,encode→g3
open _root_.Int renaming tmod_eq_emod_of_nonneg→fy
open Go.Exit renaming noGoto_ret→gn
open Go.IntWalk renaming i64_in→gq
open Go.Value renaming string→gt,oneCell'→gQ,int→hH,slice→hI,ownBlock→hZ
open Go.World.ownsRow renaming form→hj
open Go.Lib renaming indexByte→hu,compact→hE,putRow_eq_setCells→iN,trimS→iQ,run_next_end_at→i7,run_next_any_at→ja
open _root_.Bool renaming eq_iff_iff→hX
open Go.RowKit renaming Below→h7
open Go.Instr renaming next→ia
section
open Go.RowKit Go.Maps Go.Shelf Go.Lib Go.Sort
theorem zE (s:Bs):encStr s=S s:=rfl
theorem im {lo g c n:Nat} {w:ex} {a:List Bs} (h:w.ownsRow lo 9 1 (di (X ⟨g,0,Y⟩) n c) n (a.map λs=>S s)):Holds encStr w g 0 a.toArray:=by
 intro j b;have d:j<a.length:=by simpa using b
 rw [hb];refine ⟨?_,h.frozenAt j⟩;rw [h.cellAt j (by have:=h.1;simp at this;omega),getElem!_pos a.toArray j b];simp [d,zE]
theorem lN (lo:Nat) (w:ex) (v:fs) (a:List Bs) (h:w.ownsRow lo 9 1 v a.length (a.map λs=>S s)) (z:a.length<=4000000000000):
 e9 prog 186 #[v] w λe w'=>e=dk (.tuple #[])/\w'.ownsRow lo 9 1 v a.length ((a.mergeSort λx y=>decide (x<=y)).map λs=>S s)/\h7 lo w w'/\∀q,q<w.heap.size->v.ownBlock≠X q->w'.heap[q]? =w.heap[q]? :=by
 rcases h.2 with ⟨rfl,p⟩|⟨g,i,u,rfl,_⟩
 · have t:a=[]:=hQ p;subst t;refine (slices_Sort_string_none Y 0 w).mono ?_;rintro e w' ⟨rfl,rfl⟩;exact ⟨rfl,by simpa using h,em _ _,λ_ _ _=>rfl⟩
 · have k:=h.lt g (by simp [hZ]);refine (slices_Sort_string g 0 i a w (im h) k.2 (by omega)).mono ?_;rintro e w' ⟨rfl,n,o,rfl⟩;refine ⟨rfl,?_⟩;obtain ⟨ys,l⟩:=Qe ((a.mergeSort λx y=>decide (x<=y)));have f:ys.length=a.length:=by rw [<- l];exact List.length_mergeSort _
   rw [l,iN encStr w g 0 a.toArray ys n (im h) (by simpa using f)];have h1:(w.drewN n).ownsRow lo 9 1 (di (X ⟨g,0,Y⟩) a.length i) a.length (a.map λs=>S s):=h;obtain ⟨j,c⟩:=cU (ys.map encStr) 0 (w.drewN n) (a.map λs=>S s) h1 (by simp [f]);rw [List.take_zero,hW,hb,gd (by simp [f]),g5] at j;have m:((w.drewN n).setCells g 0 (ys.map encStr)).heap.size=w.heap.size:=c.size;have d:∀q,q<w.heap.size->(Sort.grow ((w.drewN n).setCells g 0 (ys.map encStr)) o).heap[q]? =((w.drewN n).setCells g 0 (ys.map encStr)).heap[q]? :=λq b=>by show (((w.drewN n).setCells g 0 (ys.map encStr)).heap++o)[q]? =_;rw [g7 (by rw [m];exact b)]
   refine ⟨ah j (λq b=>?_),⟨c.os,c.tape,c.output,by rw [Sort.size_grow,m];omega,λq b=>?_⟩,λq b r=>(d q b).trans (c.block q (λe=>r (by rw [e];rfl)))⟩
   · simp [hZ] at b;subst b;exact d _ k.2
   · rw [d q (by omega)];exact c.block q (by omega)
theorem kO (zs:List Bs):(hE zs).length<=zs.length:=by
 unfold hE Lib.compactUpTo;rw [gb];refine fr (iF _ _) ?_;simp
theorem AD {lo e g a n:Nat} {w:ex} {c:List fs} (h:w.ownsRow lo e 1 (di (X ⟨g,0,Y⟩) n a) n c) (m:Nat) (o:m<=n):w.ownsRow lo e 1 (di (X ⟨g,0,Y⟩) m a) m (c.take m):=by
 obtain ⟨h1,⟨b,_⟩|⟨q,p,d,b,f,i,r,j,k,l⟩⟩:=h
 · cases b
 · injection b with a1 a2 a3
   injection a1 with a1
   injection a1 with a1
   subst a1 a3;refine ⟨by rw [eQ];omega, .inr ⟨g,a,d,rfl,f,i,by omega,j,k,?_⟩⟩;rw [<- l,List.take_take,Nat.mul_one,Nat.mul_one,Nat.min_eq_left o]
theorem ic (lo:Nat) (w:ex) (v:fs) (a:List Bs) (h:w.ownsRow lo 9 1 v a.length (a.map λs=>S s)) (u:a.length<=4000000000000):
 e9 prog 187 #[v] w λe w'=>∃i,e=dk i/\w'.ownsRow lo 9 1 i (hE a).length ((hE a).map λs=>S s)/\h7 lo w w'/\∀q,q<w.heap.size->v.ownBlock≠X q->w'.heap[q]? =w.heap[q]? :=by
 rcases h.2 with ⟨rfl,j⟩|⟨g,c,r,rfl,_,_,k,_⟩
 · have p:a=[]:=hQ j;subst p;refine (slices_Compact_string_empty Y 0 w).mono ?_;rintro e w' ⟨rfl,rfl⟩;exact ⟨_,rfl,(by have e:hE ([]:List Bs)=[]:=rfl;rw [e];exact h),em _ _,λ_ _ _=>rfl⟩
 · have t:=h.lt g (by simp [hZ]);refine (slices_Compact_string g 0 c a w (im h) (by omega) k).mono ?_;rintro e w' ⟨rfl,n,rfl⟩;obtain ⟨ys,f⟩:=Qe (hE a);have l:ys.length<=a.length:=by rw [<- f];exact kO a
   rw [f];refine ⟨_,rfl,?_⟩;rw [iN encStr w g 0 a.toArray _ n (im h) (by simp;omega)];have h1:(w.drewN n).ownsRow lo 9 1 (di (X ⟨g,0,Y⟩) a.length c) a.length (a.map λs=>S s):=h;obtain ⟨d,b⟩:=cU ((ys++gc (a.length - ys.length) []).map encStr) 0 (w.drewN n) (a.map λs=>S s) h1 (by simp;omega);rw [List.take_zero,hW,hb,gd (by simp;omega),g5] at d;refine ⟨?_,⟨b.os,b.tape,b.output,by rw [b.size];exact ee _,λq o=>b.block q (by omega)⟩,λq o m=>b.block q (λe=>m (by rw [e];rfl))⟩;have:=AD d ys.length l;have e:((ys++gc (a.length - ys.length) []).map encStr).take ys.length=ys.map encStr:=by rw [gi,List.take_left' (by simp)]
   rw [e] at this;exact this
end
section
open Go.RowKit Go.Maps Go.Shelf
theorem dP (s:Bs) (w:ex) (c:s.length<=9223372036854775807):e9 prog 230 #[S s] w λe w'=>e=dk (dn (s.all digitB))/\Bw w w':=by
 have H:=Z (oW ⟨s.toArray⟩ w c);have a:=Z (lF s);change Hid (e9 prog 204 #[S s, .string ⟨#[48,49,50,51,52,53,54,55,56,57]⟩] w λe w'=>e=dk (S (iQ s jg))/\Bw w w') at H;generalize iQ s jg=t at *;go_enter func230,ntmps230;go_wp2_with (go_at_call 204;((with_reducible refine dz H.o ?_);rintro e w' ⟨rfl,b⟩))
 go_ret;refine ⟨an ?_,b⟩;rw [hX, <- a.o];simp
theorem mj:∀l:List Bs,Lib.join l [32]=dI l
 |[]=>rfl
 |[a]=>by rw [Lib.join_one];rfl
 |a::b::l=>by
  rw [Lib.join_cons]
  have h:=mj (b::l)
  rw [Lib.join_cons] at h
  unfold dI
  rw [<- h]
  simp [Lib.joinTail]
theorem Cs (l:List Bs):l.map (λs=>S s)=(l.map λs=>(⟨s.toArray⟩:ByteArray)).map gt:=by simp [S]
theorem mi {w:ex} {B n:Nat} {v:fs} {l:List Bs} (h:w.ownsRow B 9 1 v n (l.map λs=>S s)) (A:l.length<=100000000) (m:(dI l).length<=140737488355328):
 e9 prog 244 #[v,S [32]] w λe w'=>e=dk (S (dI l))/\Bw w w':=by
 rcases h.2 with ⟨rfl,r⟩|⟨g,f,i,rfl,z,c,h1,u,y,k⟩
 · have o:l=[]:=by have:=h.1;rw [r] at this;simpa using this
   subst o;refine (strings_Join_none Y 0 ⟨#[32]⟩ w).mono ?_;rintro e w' ⟨rfl,rfl⟩;exact ⟨rfl,em _ _⟩
 · have p:l.length=n:=by have:=h.1;simpa using this
   subst p;have q:(l.map λs=>(⟨s.toArray⟩:ByteArray)).map (·.data.toList)=l:=by simp [Function.comp_def]
   have b:(l.map λs=>(⟨s.toArray⟩:ByteArray)).length=l.length:=by simp
   have d:Lib.join ((l.map λs=>(⟨s.toArray⟩:ByteArray)).map (·.data.toList)) (⟨#[32]⟩:ByteArray).data.toList=dI l:=by rw [q];exact mj l
   have H:=strings_Join g 0 f (l.map λs=>(⟨s.toArray⟩:ByteArray)) ⟨#[32]⟩ w (λj x t=>?_) (ae c) (by rw [b];omega) (by rw [b];exact h1) (by rw [d];exact m)
   · rw [d,b] at H;exact H
   · rw [hb,aa c];have a:(i.toList.take (l.length * 1))[j]? =X (.string x):=by rw [k,Cs,List.getElem?_map,t];rfl
     rw [List.getElem?_take] at a;split at a
     · rw [<- a,Array.getElem?_toList]
     · cases a
theorem oX (s:Bs) (w:ex):e9 prog 282 #[S s,S [48]] w λe w'=>e=dk (S (s.dropWhile (· ==48)))/\w'=w:=
 Any.strings_TrimLeft_one A0 ⟨s.toArray⟩ 48 (by decide) w
theorem qw (s:Bs) (b:Nat) (a:b<s.length) (k:Nat):checkGo k (s.take (b+1))=checkGo k (s.take b)+valB (s.getD b 0) * (1+2 * ((k+b)%2)):=by
 induction s generalizing b k with
 |nil=>simp at a
 |cons c l ih=>
  cases b with
  |zero=>simp [checkGo]
  |succ b=>
   have d:b<l.length:=by simpa using a
   have h:=ih b d (k+1);simp only [hJ,checkGo,hK];rw [h,show k+1+b=k+(b+1) by omega];omega
theorem uJ (s:Bs) (k:Nat) (h:∀c∈s,valB c<=255):checkGo k s<=765 * s.length:=by
 induction s generalizing k with
 |nil=>simp [checkGo]
 |cons c l ih=> have h1:=ih (k+1) λx b=>h x (gs _ b);have a:=h c gO;simp only [checkGo,es];have d:valB c * (1+2 * (k%2))<=255 * 3:=hf a (by omega);omega
abbrev signsI:Bs:=[48,49,50,51,52,53,54,55,56,57,88,120,32,45]
theorem zC (c:Nat) (h:128<=c):(∃a y:UInt8,g3 (c:Int)=⟨#[a,y]⟩/\128<=y.toNat)∨(∃a b y:UInt8,g3 (c:Int)=⟨#[a,b,y]⟩/\128<=y.toNat)∨∃a b d y:UInt8,g3 (c:Int)=⟨#[a,b,d,y]⟩/\128<=y.toNat:=by
 have f:∃n,(if Utf8.valid (c:Int) then (c:Int).toNat else Utf8.runeError)=n/\128<=n:=by
  refine ⟨_,rfl,?_⟩;split
  · simpa using h
  · decide
 obtain ⟨n,g,i⟩:=f;have e:∀k:Nat,128<=(e6 (128+k%64)).toNat:=λk=>by
  have:(e6 (128+k%64)).toNat=128+k%64:=by rw [UInt8.toNat_ofNat'];omega
  omega
 unfold g3;rw [g];dsimp only;rw [if_neg (by omega)];split
 · exact .inl ⟨_,_,rfl,e n⟩
 · split
   · exact .inr (.inl ⟨_,_,_,rfl,e n⟩)
   · exact .inr (.inr ⟨_,_,_,_,rfl,e n⟩)
theorem pY (y:UInt8) (h:128<=y.toNat) (l:Bs) (a:∀b∈l,b.toNat<128) (w:ex):e9 prog 246 #[S l,J dp y.toNat] w λe w'=>e=dk (J U (-1))/\w'=w:=by
 have:=strings_IndexByte ⟨l.toArray⟩ y.toNat w;refine this.mono ?_;rintro e w' ⟨rfl,rfl⟩;refine ⟨?_,rfl⟩;have c:(y.toNat:Int).toNat.toUInt8=y:=by simp
 rw [c];have:hu l y= -1:=by
  clear this c;induction l with
  |nil=>rfl
  |cons b l ih=>
   have:=a b gO;simp only [hu];have f:(b==y)=false:=by
    cases hby:b==y
    · rfl
    · have e:b=y:=by simpa using hby
      rw [e] at this;omega
   rw [f,ih (λd g=>a d (gs _ g))];rfl
 exact congrArg (λi=>Ending.returned (J U i)) this
theorem v6 (c:Nat) (g:c<=1114111) (a:¬(55296<=c/\c<=57343)) (w:ex):e9 prog 312 #[J ds c] w λe w'=>e=dk (dn true)/\w'=w:=by
 have b:(0:Int)<=c:=by omega
 by_cases h:c<55296
 · have h1:(c:Int)<55296:=by omega
   clear a h;go_enter func312,ntmps312;go_wp2_with fail
   go_ret;exact ⟨rfl,rfl⟩
 · have h1:¬(c:Int)<55296:=by omega
   have d:(57343:Int)<c:=by omega
   have f:(c:Int)<=1114111:=by omega
   clear a h;go_enter func312,ntmps312;go_wp2_with fail
   go_ret;exact ⟨rfl,rfl⟩
theorem oU (c:Nat) (a:55296<=c/\c<=57343) (w:ex):e9 prog 312 #[J ds c] w λe w'=>e=dk (dn false)/\w'=w:=by
 have b:(0:Int)<=c:=by omega
 have h1:¬(c:Int)<55296:=by omega
 have d:¬(57343:Int)<c:=by omega
 clear a;go_enter func312,ntmps312;go_wp2_with fail
 go_ret;exact ⟨rfl,rfl⟩
theorem xj (c:Nat) (h:128<=c) (l:c<=1114111) (m:c≠65533) (w:ex):e9 prog 284 #[S signsI,J ds c] w λe w'=>e=dk (J U (-1))/\Bw w w':=by
 have q:(0:Int)<=c:=by omega
 have h1:¬(c:Int)<128:=by omega
 have r:¬((c:Int)=65533):=by omega
 by_cases hs:55296<=c/\c<=57343
 · have k:Hid (∀W,e9 prog 312 #[J ds c] W λe w'=>e=dk (dn false)/\w'=W):=λW=>oU c hs W;clear hs h m l;go_enter func284,ntmps284;go_wp2_with (go_at_call 312;((with_reducible refine dz (k.o _) ?_);rintro e w1 ⟨rfl,rfl⟩))
   go_ret;exact ⟨rfl,em _ _⟩
 · have k:Hid (∀W,e9 prog 312 #[J ds c] W λe w'=>e=dk (dn true)/\w'=W):=λW=>v6 c l hs W;have p:=zC c h;clear hs h m l;rcases p with ⟨a,y,f,g⟩|⟨a,b,y,f,g⟩|⟨a,b,d,y,f,g⟩
   · have j:Hid (∀W,e9 prog 246 #[S [50,51,52,53,54,55,56,57,88,120,32,45],J dp y.toNat] W λe w'=>e=dk (J U (-1))/\w'=W):=λW=>pY y g _ (by decide) W;have n:¬((49:Int)=y.toNat):=by omega
     have i:Hid (gt (g3 (c:Int))=S [a,y]):=by unfold Hid;rw [f]
     clear g f;go_enter func284,ntmps284;go_upto_region 2 with (go_at_call 312;((with_reducible refine dz (k.o _) ?_);rintro e w1 ⟨rfl,rfl⟩))
     go_step3
     go_upto_region 2 with fail
     rw [i.o];go_wp2_with fail
     refine g1 2 ?_;rw [fc];go_wp2_with fail
     go_step3
     go_wp2_with fail
     go_region;go_wp2_with fail
     go_region_with (go_at_call 246;refine (j.o _).mono ?_;rintro e o ⟨rfl,rfl⟩)
     all_goals (go_wp2_with fail;rw [gn];go_wp2_with fail;rw [gn];go_wp2_with fail;go_ret;exact ⟨rfl,(em _ _).drew.drew⟩)
   · have j:Hid (∀W,e9 prog 246 #[S [51,52,53,54,55,56,57,88,120,32,45],J dp y.toNat] W λe w'=>e=dk (J U (-1))/\w'=W):=λW=>pY y g _ (by decide) W;have n:¬((50:Int)=y.toNat):=by omega
     have i:Hid (gt (g3 (c:Int))=S [a,b,y]):=by unfold Hid;rw [f]
     clear g f;go_enter func284,ntmps284;go_upto_region 2 with (go_at_call 312;((with_reducible refine dz (k.o _) ?_);rintro e w1 ⟨rfl,rfl⟩))
     go_step3
     go_upto_region 2 with fail
     rw [i.o];go_wp2_with fail
     refine g1 2 ?_;rw [fc];go_wp2_with fail
     go_step3
     go_wp2_with fail
     go_region;go_wp2_with fail
     go_region_with (go_at_call 246;refine (j.o _).mono ?_;rintro e o ⟨rfl,rfl⟩)
     all_goals (go_wp2_with fail;rw [gn];go_wp2_with fail;rw [gn];go_wp2_with fail;go_ret;exact ⟨rfl,(em _ _).drew.drew⟩)
   · have j:Hid (∀W,e9 prog 246 #[S [52,53,54,55,56,57,88,120,32,45],J dp y.toNat] W λe w'=>e=dk (J U (-1))/\w'=W):=λW=>pY y g _ (by decide) W;have n:¬((51:Int)=y.toNat):=by omega
     have i:Hid (gt (g3 (c:Int))=S [a,b,d,y]):=by unfold Hid;rw [f]
     clear g f;go_enter func284,ntmps284;go_upto_region 2 with (go_at_call 312;((with_reducible refine dz (k.o _) ?_);rintro e w1 ⟨rfl,rfl⟩))
     go_step3
     go_upto_region 2 with fail
     rw [i.o];go_wp2_with fail
     refine g1 2 ?_;rw [fc];go_wp2_with fail
     go_step3
     go_wp2_with fail
     go_region;go_wp2_with fail
     go_region_with (go_at_call 246;refine (j.o _).mono ?_;rintro e o ⟨rfl,rfl⟩)
     all_goals (go_wp2_with fail;rw [gn];go_wp2_with fail;rw [gn];go_wp2_with fail;go_ret;exact ⟨rfl,(em _ _).drew.drew⟩)
theorem nm (w:ex):e9 prog 284 #[S signsI,J ds 65533] w λe w'=>e=dk (J U (-1))/\Bw w w':=by
 have q:Hid (∀p<14,(fp ⟨signsI.toArray⟩ p).2=1/\(fp ⟨signsI.toArray⟩ p).1<128):=by unfold Hid;decide+kernel
 go_enter func284,ntmps284;go_wp2_with fail
 have m:(w.alloc (.stringIter ⟨signsI.toArray⟩ 0)).heap[w.heap.size]? =X (.stringIter ⟨signsI.toArray⟩ 0):=er w _;have s:=Z m;have n:Hid (Bw w (w.alloc (.stringIter ⟨signsI.toArray⟩ 0))):=(em _ w).alloc (ee _) _;clear m;go_loopw [5,6] (λ_a _b wr=>Hid (Bw w wr)/\∃a:Nat,a<=14/\Hid (wr.heap[w.heap.size]? =X (.stringIter ⟨signsI.toArray⟩ a))) (λ_ _ wr=>14 - wr.iterPos w.heap.size)
 case atStart=>exact ⟨n,0,by omega,s⟩
 case round=>
  obtain ⟨g,a,x,c⟩:=hrel;have l:wr.iterPos w.heap.size=a:=by simp [hM,c.o]
  have r:=Z l;clear l;by_cases hp:a<14
  · obtain ⟨i,t⟩:=q a hp;have j:∀b,(ia (dx (X ⟨w.heap.size,0,Y⟩)) true b).run prog wr=_:=λb=>ja wr w.heap.size ⟨signsI.toArray⟩ a b c.o hp;have f:=Lib.iterAt_heap wr w.heap.size ⟨signsI.toArray⟩ a (a+(fp ⟨signsI.toArray⟩ a).2) c.o;have d:=Lib.below_iterAt g.o (k:=w.heap.size) (ee _) ⟨signsI.toArray⟩ (a+(fp ⟨signsI.toArray⟩ a).2);rw [i] at j f d;generalize (wr.iterAt w.heap.size ⟨signsI.toArray⟩ (a+1))=W1 at *;generalize (fp ⟨signsI.toArray⟩ a).1=z at *;have y:¬((z:Int)=65533):=by omega
    have h:=Z f;have o:=Z d;clear f d i t;go_wp2_with fail
    go_roundw
    case rel=>exact ⟨o,a+1,by omega,h⟩
    case measure=>
     have u:W1.iterPos w.heap.size=a+1:=by simp [hM,h.o]
     rw [u,r.o];omega
  · have v:¬a<(⟨signsI.toArray⟩:ByteArray).size:=hp;have j:∀b,(ia (dx (X ⟨w.heap.size,0,Y⟩)) true b).run prog wr=_:=λb=>i7 wr w.heap.size ⟨signsI.toArray⟩ a b c.o v;go_wp2_with fail
    (try rw [gn])
    go_ret;exact ⟨rfl,g.o⟩
def partB (b:UInt8):Bool:=signsI.contains b
theorem AJ:∀b:UInt8,partB b=true->b.toNat<128:=by
 intro b h;have:b∈signsI:=by simpa [partB] using h
 simp [signsI] at this;rcases this with rfl|rfl|rfl|rfl|rfl|rfl|rfl|rfl|rfl|rfl|rfl|rfl|rfl|rfl<;>decide
theorem sD (b:UInt8) (t:List UInt8) (h:128<=b.toNat):128<=(Lib.decodeL (b::t)).1:=by
 rw [Lib.decodeL_N];unfold Lib.decodeN;rw [i1,if_neg (by omega)];split
 · split
   · assumption
   · decide
 · split
   · split
     · rename_i h1 a;omega
     · decide
   · split
     · split
       · rename_i h1 a;omega
       · decide
     · decide
def jz (c:Nat):Bool:=decide (c<128)&&partB (e6 c)
theorem xh (c:Nat) (b:c<=1114111) (w:ex):e9 prog 234 #[J ds c] w λe w'=>e=dk (dn (!jz c))/\Bw w w':=by
 have f:Hid (e9 prog 235 #[S signsI,J ds c] w λe w'=>e=dk (dn (jz c))/\Bw w w'):=by
  by_cases h:c<128
  · refine (strings_ContainsRune_ascii ⟨signsI.toArray⟩ c w (by omega) (by omega)).mono ?_;rintro e w' ⟨rfl,rfl⟩;refine ⟨an ?_,em _ _⟩;unfold jz partB;rw [decide_eq_true h,Bool.true_and,Lib.contains_iff_indexByte];have:(c:Int).toNat.toUInt8=e6 c:=by simp
    rw [this]
  · have g:Hid (e9 prog 284 #[S signsI,J ds c] w λe w'=>e=dk (J U (-1))/\Bw w w'):=by
     by_cases h2:c=65533
     · subst h2;exact nm w
     · exact xj c (by omega) b h2 w
    have d:jz c=false:=by unfold jz;rw [decide_eq_false h];rfl
    rw [d];clear h d;go_enter func235,ntmps235;go_wp2_with (go_at_call 284;((with_reducible refine dz g.o ?_);rintro e w1 ⟨rfl,a⟩))
    go_ret;exact ⟨rfl,a⟩
 generalize jz c=p at *;clear b;go_enter func234,ntmps234;go_wp2_with (go_at_call 235;((with_reducible refine dz f.o ?_);rintro e w1 ⟨rfl,a⟩))
 go_ret;exact ⟨rfl,a⟩
def partN (s:Bs):Nat:=(s.takeWhile partB).length
theorem yK (s:Bs):partN s<=s.length:=(List.takeWhile_prefix _).length_le
theorem yL (s:Bs):∀k,k<s.length->(∀j (h:j<s.length),j<k->partB s[j]=true)->(partB (s.getD k 0)=false->partN s=k)/\(partB (s.getD k 0)=true->k<partN s):=by
 induction s with
 |nil=>intro k a;simp at a
 |cons b s ih=>
  intro k a d;cases k with
  |zero=>
   simp only [i1];refine ⟨λh=>?_,λh=>?_⟩
   · unfold partN;rw [gx,h];rfl
   · unfold partN;rw [gx,h];simp
  |succ k=>
   have c:=d 0 (by simp) (by omega);simp only [List.getElem_cons_zero] at c;have:=ih k (by simpa using a) (λj h f=>by have:=d (j+1) (by simpa using h) (by omega);simpa using this);have e:partN (b::s)=partN s+1:=by unfold partN;rw [gx,c];simp
   rw [e,hK];exact ⟨λh=>by rw [this.1 h],λh=>by have:=this.2 h;omega⟩
theorem wM (s:Bs) (h:∀j (h:j<s.length),partB s[j]=true):partN s=s.length:=by
 have:∀l:Bs,(∀b∈l,partB b=true)->l.takeWhile partB=l:=by
  intro l;induction l with
  |nil=>intro _;rfl
  |cons b l ih=> intro a;rw [gx,a b gO,if_pos rfl,ih λc f=>a c (gs _ f)]
 unfold partN;rw [this s (λb d=>by obtain ⟨j,g,e⟩:=List.getElem_of_mem d;rw [<- e];exact h j g)]
theorem uy (s:Bs) (w:ex) (M:s.length<=1000000000):e9 prog 283 #[S s, .func (.func 234) #[] #[],dn true] w λe w'=>e=dk (J U (if partN s=s.length then -1 else (partN s:Int)))/\Bw w w':=by
 have a8:=Z M;obtain ⟨R,r⟩:=Qe ((if partN s=s.length then (-1:Int) else (partN s:Int)));rw [r];have y:=Z r;clear M r;go_enter func283,ntmps283;go_wp2_with fail
 have N:(w.alloc (.stringIter ⟨s.toArray⟩ 0)).heap[w.heap.size]? =X (.stringIter ⟨s.toArray⟩ 0):=er w _;have a1:=Z N;have P:Hid (Bw w (w.alloc (.stringIter ⟨s.toArray⟩ 0))):=(em _ w).alloc (ee _) _;clear N;go_loopw [7,8] (λ_a _b wr=>Hid (Bw w wr)/\∃a:Nat,a<=s.length/\Hid (wr.heap[w.heap.size]? =X (.stringIter ⟨s.toArray⟩ a))/\Hid (∀j (h:j<s.length),j<a->partB s[j]=true)) (λ_ _ wr=>s.length - wr.iterPos w.heap.size)
 case atStart=>exact ⟨P,0,by omega,a1,λj h t=>by omega⟩
 case round=>
  obtain ⟨u,a,a9,i,o⟩:=hrel;have L:wr.iterPos w.heap.size=a:=by simp [hM,i.o]
  have V:=Z L;clear L;by_cases hp:a<s.length
  · have a6:a<(⟨s.toArray⟩:ByteArray).size:=hp;have a5:∀b,(ia (dx (X ⟨w.heap.size,0,Y⟩)) true b).run prog wr=_:=λb=>ja wr w.heap.size ⟨s.toArray⟩ a b i.o a6;have I:=Lib.iterAt_heap wr w.heap.size ⟨s.toArray⟩ a (a+(fp ⟨s.toArray⟩ a).2) i.o;have E:=Lib.below_iterAt u.o (k:=w.heap.size) (ee _) ⟨s.toArray⟩ (a+(fp ⟨s.toArray⟩ a).2);have G:fp ⟨s.toArray⟩ a=Lib.decodeL (s[a]::s.drop (a+1)):=by rw [ec,he hp]
    have F:(fp ⟨s.toArray⟩ a).1<=1114111:=by rw [ec];exact Lib.decodeL_rune _
    have q:=yL s a hp o.o;have H:s.getD a 0=s[a]:=by simp [ha,hp]
    rw [H] at q;have a4:(jz (fp ⟨s.toArray⟩ a).1=partB s[a])/\(partB s[a]=true->(fp ⟨s.toArray⟩ a).2=1):=by
     rw [G];by_cases h:s[a].toNat<128
     · rw [Lib.decodeL_ascii _ _ h];refine ⟨?_,λ_=>rfl⟩;unfold jz;rw [decide_eq_true h,Bool.true_and];simp
     · have A:=sD s[a] (s.drop (a+1)) (by omega);have d:partB s[a]=false:=by
        cases l:partB s[a]
        · rfl
        · exact absurd (AJ _ l) h
       refine ⟨?_,λl=>by rw [d] at l;cases l⟩;rw [d];unfold jz;rw [decide_eq_false (by omega)];rfl
    obtain ⟨B,C⟩:=a4;have D:∀j (h:j<s.length),j<a+1->partB s[a]=true->partB s[j]=true:=λj h t A=>by
     rcases Nat.lt_or_ge j a with d|d
     · exact o j h d
     · have:j=a:=by omega
       subst this;exact A
    have W:=Z D;have O:=Z q;have n:=Z (xh _ F);rw [B] at n;generalize partB s[a]=pb at *;generalize hW1:(wr.iterAt w.heap.size ⟨s.toArray⟩ (a+(fp ⟨s.toArray⟩ a).2))=W1 at *;generalize hz:(fp ⟨s.toArray⟩ a).2=z at *;generalize (fp ⟨s.toArray⟩ a).1=c at *;have a3:=Z C;have T:=Z I;have g:=Z E;clear I E B C D q G F H hW1 hz;cases pb
    · have x:Hid (partN s=a):=O.1 rfl;have K:¬(partN s=s.length):=by rw [x.o];omega
      have p:Hid (R=a):=by unfold Hid;rw [<- y.o,if_neg K,x.o]
      clear K;go_wp2_with (go_at_call 234;((with_reducible refine dz (n.o _) ?_);rintro e m ⟨rfl,f⟩))
      go_ret;exact ⟨(by rw [p.o];rfl),btr g.o f g.o.size⟩
    · have a2:Hid (z=1):=a3 rfl;have a0:Hid (∀j (h:j<s.length),j<a+1->partB s[j]=true):=λj h t=>W j h t rfl;go_wp2_with (go_at_call 234;((with_reducible refine dz (n.o _) ?_);rintro e m ⟨rfl,f⟩))
      have Q:Hid (Bw w m):=btr g.o f g.size;have v:Hid (m.heap[w.heap.size]? =X (.stringIter ⟨s.toArray⟩ (a+1))):=by have:=T.o;rw [a2.o] at this;exact (f.block _ (Array.getElem?_eq_some_iff.1 this).1).trans this
      clear f;go_roundw
      case rel=>exact ⟨Q,a+1,by omega,v,a0⟩
      case measure=>
       have e1:m.iterPos w.heap.size=a+1:=by simp [hM,v.o]
       rw [e1,V.o];omega
  · have a7:¬a<(⟨s.toArray⟩:ByteArray).size:=hp;have a5:∀b,(ia (dx (X ⟨w.heap.size,0,Y⟩)) true b).run prog wr=_:=λb=>i7 wr w.heap.size ⟨s.toArray⟩ a b i.o a7;have p:Hid (R= -1):=by unfold Hid;rw [<- y.o,if_pos (wM s (λj h=>o.o j h (by omega)))]
    go_wp2_with fail
    go_ret;exact ⟨(by rw [p.o];rfl),u.o⟩
theorem uz (s:Bs) (w:ex) (c:s.length<=1000000000):e9 prog 233 #[S s, .func (.func 234) #[] #[]] w λe w'=>e=dk (J U (if partN s=s.length then -1 else (partN s:Int)))/\Bw w w':=by
 have a:=Z (uy s w c);generalize (if partN s=s.length then (-1:Int) else (partN s:Int))=r at *;go_enter func233,ntmps233;go_wp2_with (go_at_call 283;((with_reducible refine dz a.o ?_);rintro e w1 ⟨rfl,b⟩))
 go_ret;exact ⟨rfl,b⟩
theorem xi (s:Bs):isbnGo s=(s.takeWhile partB).filter λb=> !(decide (b=32)||decide (b=45)):=by
 induction s with
 |nil=>rfl
 |cons b s ih=>
  unfold isbnGo;have c:partB b=(digitB b||xB b||decide (b=32∨b=45)):=by
   have:∀n<256,partB (e6 n)=(digitB (e6 n)||xB (e6 n)||decide (e6 n=32∨e6 n=45)):=by decide+kernel
   have:=this b.toNat b.toNat_lt;rwa [i2] at this
  have d:(digitB b||xB b)=true->(!(decide (b=32)||decide (b=45)))=true:=by
   have:∀n<256,(digitB (e6 n)||xB (e6 n))=true->(!(decide (e6 n=32)||decide (e6 n=45)))=true:=by decide+kernel
   have:=this b.toNat b.toNat_lt;rwa [i2] at this
  rw [gx,c];by_cases h1:(digitB b||xB b)=true
  · rw [if_pos h1,h1,Bool.true_or,if_pos rfl,fx,d h1,if_pos rfl,ih]
  · rw [if_neg h1];have a:(digitB b||xB b)=false:=by simpa using h1
    rw [a,Bool.false_or];by_cases h2:b=32∨b=45
    · rw [if_pos h2,decide_eq_true h2,if_pos rfl,fx,ih];have:(!(decide (b=32)||decide (b=45)))=false:=by rcases h2 with rfl|rfl<;>rfl
      rw [this];rfl
    · rw [if_neg h2,decide_eq_false h2];rfl
theorem kK (w:ex):(callFunc 352 #[]).run prog w= .ok (.value (.tuple #[])) w:=run_call_mark0 func352 (by kernel_rfl) (by kernel_rfl) (by kernel_rfl) .disable (by kernel_rfl) w
theorem mz (w:ex):(callFunc 354 #[]).run prog w= .ok (.value (.tuple #[])) w:=run_call_mark0 func354 (by kernel_rfl) (by kernel_rfl) (by kernel_rfl) .enable (by kernel_rfl) w
theorem tg (a:Addr) (w:ex):(callFunc 355 #[dx (X a)]).run prog w= .ok (.value (.tuple #[])) w:=run_call_marked func355 (by kernel_rfl) (by kernel_rfl) (by kernel_rfl) .acquire (by kernel_rfl) a w
theorem rF (a:Addr) (w:ex):(callFunc 357 #[dx (X a)]).run prog w= .ok (.value (.tuple #[])) w:=run_call_marked func357 (by kernel_rfl) (by kernel_rfl) (by kernel_rfl) .releaseMerge (by kernel_rfl) a w
theorem wk (a:Addr) (x:fs) (u:FrameMode) (w:ex) (f:w.cell? a=X x) (h:w.frozen? a=false):
 CallsD prog 337 #[dx (X a),dn true] u w λe d w'=>d=u/\(e=dk (.tuple #[])/\w'=w.drew.setCell a (J .u32 1)):=by
 have b:w.drew.cell? a=X x:=by go_simp
 have c:w.drew.frozen? a=false:=by go_simp
 have g:=run_call_store (P:=prog) func347 (by kernel_rfl) (by kernel_rfl) (by kernel_rfl) (by kernel_rfl) (k:= .u32) (y:=1) b c;go_enter_d func337,ntmps337
 go_wp2;go_region_calls
 all_goals (go_end0;exact ⟨rfl,rfl⟩)
theorem tA (a:Addr) (u:FrameMode) (w:ex) (b:w.cell? a=X (J ds 1)) (c:w.frozen? a=false):
 CallsD prog 336 #[dx (X a)] u w λe d w'=>d=u/\(e=dk (.tuple #[])/\w'=w.setCell a (J ds 0)):=by
 have h:=kK;have i:=mz;have j:=rF;have f:=run_call_add (P:=prog) func358 (by kernel_rfl) (by kernel_rfl) (by kernel_rfl) ds (by kernel_rfl) (y:= -1) (s:=0) b c (by simp [go_sem];rfl);have g:=run_convert_to_unsafe (P:=prog) (src:=427) (dst:=282) underlying427 underlying282 (by kernel_rfl) b;go_enter_d func336,ntmps336
 go_wp2;go_end0
 go_wp2;all_goals (go_end0;exact ⟨rfl,rfl⟩)
theorem yZ (a:Addr) (w:ex) (b:w.cell? a=X (J ds 0)) (d:w.frozen? a=false):
 e9 prog 335 #[dx (X a)] w λe w'=>e=dk (.tuple #[])/\w'=w.setCell a (J ds 1):=by
 have i:=kK;have j:=mz;have f:=tg;have g:=run_call_cas_hit (P:=prog) func353 (by kernel_rfl) (by kernel_rfl) (by kernel_rfl) ds (by kernel_rfl) (y:=1) b d;have c:(w.setCell a (J ds 1)).cell? a=X (J ds 1):=World.cell?_setCell_same w a _ b;have h:=run_convert_to_unsafe (P:=prog) (src:=427) (dst:=282) underlying427 underlying282 (by kernel_rfl) c;go_enter func335,ntmps335;go_wp2;first |go_end0|(simp only [Exit.inBlock,Exit.then];refine g2 (results_none rfl _ _ _) rfl ?_)|refine g2 (results_none rfl _ _ _) rfl ?_
 go_wp2;all_goals (go_end0;exact ⟨rfl,rfl⟩)
theorem rU (a:Addr) (d:Int) (b:Bool) (f:(d !=0)=b) (w:ex) (c:w.cell? a=X (J .u32 d)):e9 prog 320 #[dx (X a)] w λe w'=>e=dk (dn b)/\w'=w:=by
 have g:=run_call_load (P:=prog) func334 (by kernel_rfl) (by kernel_rfl) (by kernel_rfl) .u32 (by kernel_rfl) c;subst f;go_enter func320,ntmps320;go_wp2;go_ret;exact ⟨rfl,rfl⟩
theorem xE (s:Bs) (c:UInt8) (w:ex):e9 prog 396 #[S s,S [c]] w λe w'=>e=dk (J U (s.count c))/\w'=w:=by
 have a:(c.toNat:Int).toNat.toUInt8=c:=by simp
 have b:∀W,(callFunc 398 #[S s,J dp c.toNat]).run prog W= .ok (.value (J U (s.count c))) W:=λW=>by rw [run_callFunc_extern func398 (by kernel_rfl) (by kernel_rfl) (by kernel_rfl) (e:=Extern.BytealgCount.count) (by kernel_rfl),Lib.run_countString,a];rfl
 go_enter func396,ntmps396;go_wp2;go_ret;exact ⟨rfl,rfl⟩
def kC (R:Nat) (v x:fs) (a:ex->Prop) (S:ex->ex->Prop):Prop:=
 ∀w:ex,a w->w.heap[R]? =X (dy #[J .u32 0,J ds 1,J .u32 0, .nilIface,v] 355 (0,0))->e9 prog 289 #[dx (X ⟨R,0,Y⟩)] w λe w'=>e=dk (.tuple #[])/\w'.heap[R]? =X (dy #[J .u32 0,J ds 1,J .u32 0,x,di Y 0 0] 355 (0,0))/\S w w'
theorem yx (R:Nat) (v x:fs) (g:ex->Prop) (S:ex->ex->Prop) (i:kC R v x g S) (w:ex) (j:∀w',aw R w w'->g w') (h:w.heap[R]? =X (dy #[J .u32 0,J ds 0,J .u32 0, .nilIface,v] 355 (0,0))):
 e9 prog 321 #[dx (X ⟨R,0,Y⟩), .func (.func 289) #[dx (X ⟨R,0,Y⟩)] #[]] w λe w'=>e=dk (.tuple #[])/\∃w1 k:ex,aw R w w1/\S w1 k/\aw R k w'/\w'.heap[R]? =X (dy #[J .u32 1,J ds 0,J .u32 0,x,di Y 0 0] 355 (0,0)):=by
 have h1:(w.setCell ⟨R,1,Y⟩ (J ds 1)).heap[R]? =X (dy #[J .u32 0,J ds 1,J .u32 0, .nilIface,v] 355 (0,0)):=ap h 1 (J ds 1);have c:aw R w (w.setCell ⟨R,1,Y⟩ (J ds 1)):=(aw.refl R w).setCell 1 _;have n:=Z (yZ ⟨R,1,Y⟩ w ((aa h 1).trans rfl) (ab h 1));have l:=Z (i _ (j _ c) h1);have o:=Z (rU ⟨R,0,Y⟩ 0 false rfl _ ((aa h1 0).trans rfl));have y:∀(x:Bool) (w:ex),(Op.unary .not (dn x)).run prog w= .ok (dn (!x)) w:=λ_ _=>rfl;have m:=Z c;clear h1 c h i j;generalize w.setCell ⟨R,1,Y⟩ (J ds 1)=W1 at *;go_enter_defers func321,ntmps321
 go_wp2_with (first |(go_at_call 335;refine dz n.o ?_;rintro e w' ⟨rfl,rfl⟩)|(go_at_call 320;refine dz o.o ?_;rintro e w' ⟨rfl,rfl⟩)|(go_at_call 289;refine dz l.o ?_;rintro e a ⟨rfl,b,r⟩))
 have u:=Z b;refine leaves_cons (f:=337) (args:= #[dx (X ⟨R,0,Y⟩),dn true]) (by simp) (by simp [go_sem]) ?_;refine (wk ⟨R,0,Y⟩ (J .u32 0) .returning _ ((aa b 0).trans rfl) (ab b 0)).mono ?_;rintro e s t ⟨rfl,rfl,rfl⟩;have d:(a.drew.setCell ⟨R,0,Y⟩ (J .u32 1)).heap[R]? =X (dy #[J .u32 1,J ds 1,J .u32 0,x,di Y 0 0] 355 (0,0)):=ap (w:=a.drew) b 0 (J .u32 1);refine leaves_cons (f:=336) (args:= #[dx (X ⟨R,1,Y⟩)]) (by simp [settle]) (by simp [go_sem]) ?_;refine (tA ⟨R,1,Y⟩ _ _ ((aa d 1).trans rfl) (ab d 1)).mono ?_;rintro e s t ⟨rfl,rfl,rfl⟩;have q:=ap d 1 (J ds 0);have p:aw R a ((a.drew.setCell ⟨R,0,Y⟩ (J .u32 1)).setCell ⟨R,1,Y⟩ (J ds 0)):=(((aw.refl R a).drew).setCell 0 _).setCell 1 _;simp [Leaves,settle,results,Tryz.results321];exact ⟨_,m.o,_,r,p,q⟩
theorem CA (R:Nat) (v x:fs) (a:ex->Prop) (S:ex->ex->Prop) (b:kC R v x a S) (w:ex) (c:∀w',aw R w w'->a w') (h:w.heap[R]? =X (dy #[J .u32 0,J ds 0,J .u32 0, .nilIface,v] 355 (0,0))):
 e9 prog 288 #[dx (X ⟨R,0,Y⟩), .func (.func 289) #[dx (X ⟨R,0,Y⟩)] #[]] w λe w'=>e=dk (.tuple #[])/\∃w1 d:ex,aw R w w1/\S w1 d/\aw R d w'/\w'.heap[R]? =X (dy #[J .u32 1,J ds 0,J .u32 0,x,di Y 0 0] 355 (0,0)):=by
 have g:=Z (rU ⟨R,0,Y⟩ 0 false rfl _ ((aa h 0).trans rfl));have f:=Z (yx R v x a S b w c h);have k:∀(x:Bool) (w:ex),(Op.unary .not (dn x)).run prog w= .ok (dn (!x)) w:=λ_ _=>rfl;clear h b c;go_enter func288,ntmps288;go_wp2_with (first |(go_at_call 320;refine dz g.o ?_;rintro e w' ⟨rfl,rfl⟩)|(go_at_call 321;refine dz f.o ?_;rintro e j ⟨rfl,i⟩))
 go_end0
 exact ⟨rfl,i⟩
theorem eb {c:UInt8} (h:digitB c=true):48<=c.toNat/\c.toNat<=57:=by
 unfold digitB at h;simp only [Bool.and_eq_true,decide_eq_true_eq] at h;exact h
theorem oH (s:Bs) (w:ex) (A:12<=s.length) (hs:s.length<=1000) (a:(s.take 12).all digitB=true):e9 prog 240 #[S s] w λe w'=>e=dk (J dp (checkR s).toNat)/\Bw w w':=by
 obtain ⟨t,f⟩:=Qe (s.take 12);have l:t.length=12:=by rw [<- f];simp;omega
 have u:Hid (checkR s=e6 (48+(10 - checkGo 0 t%10)%10)):=by unfold Hid;rw [<- f];rfl
 rw [f] at a;obtain ⟨G,w1,O,m,M,L,d,z⟩:=mI t w;have F:=Z m;have n:=Z d;have o:Hid (∀k (h:k<t.length),digitB t[k]=true):=λk h=>by rw [ht] at a;exact a _ (g0 h)
 have g:Hid (∀k,checkGo 0 (t.take k)<=765 * 12):=λk=>by
  have:=uJ (t.take k) 0 (λc d=>by
   have h1:digitB c=true:=by rw [ht] at a;exact a _ (iP d)
   have y:=eb h1;unfold valB;omega)
  have K:(t.take k).length<=12:=by rw [eQ];omega
  omega
 have a0:(12:Int)<=(s.length:Int):=by omega
 have E:=Z l;have a1:t.length<=12:=by omega
 have b:((s.take 12).length:Int)=t.length:=by rw [f]
 clear m d z a A l;go_enter func240,ntmps240;go_wp2_with fail
 go_loop [3,4,5,10] (λD _a _c i=>∃(k:Nat),k<=t.length/\i=J U k/\D=J U (checkGo 0 (t.take k):Nat)) (λ_ _ _ i=>t.length - (intOf i).toNat)
 case atStart=>exact ⟨0,fz _,rfl,rfl⟩
 case round=>
  obtain ⟨k,P,rfl,rfl⟩:=hrel;by_cases b:k<t.length
  · have B:=g k;have N:=n k b;obtain ⟨h1,y⟩:=eb (o k b);have j:Hid (checkGo 0 (t.take (k+1))=checkGo 0 (t.take k)+(t[k].toNat - 48) * (1+2 * (k%2))):=by unfold Hid;rw [qw t k b,hb];simp [valB,ha,ib b]
    generalize checkGo 0 (t.take k)=q at *;have R:((k:Int)%2)=((k%2:Nat):Int):=by omega
    have T:(Int.tmod (k:Int) 2)=((k%2:Nat):Int):=by rw [fy (by omega)];omega
    have Q:k%2<2:=Nat.mod_lt _ (by omega);generalize k%2=r at *;have C:r=0∨r=1:=by omega
    rcases C with rfl|rfl
    · go_wp2_with fail
      go_round
      case rel=>exact ⟨k+1,by omega,by go_num,by rw [j.o];go_num⟩
      case measure=>simp [intOf];omega
    · go_wp2_with fail
      go_round
      case rel=>exact ⟨k+1,by omega,by go_num,by rw [j.o];go_num⟩
      case measure=>simp [intOf];omega
  · have B:=g k;have p:Hid (checkGo 0 (t.take k)=checkGo 0 t):=by unfold Hid;rw [ft (by omega)]
    have H:Int.tmod ((checkGo 0 (t.take k):Nat):Int) 10=((checkGo 0 (t.take k)%10:Nat):Int):=by rw [fy (by omega)];omega
    generalize checkGo 0 (t.take k)=q at *;have V:q%10<10:=Nat.mod_lt _ (by omega);generalize hqq:q%10=r at *;have I:Int.tmod (10 - (r:Int)) 10=(((10 - r)%10:Nat):Int):=by rw [fy (by omega)];omega
    have W:(10 - r)%10<10:=Nat.mod_lt _ (by omega);rw [p.o] at hqq;have v:Hid (checkR s=e6 (48+(10 - r)%10)):=by unfold Hid;rw [u.o,hqq]
    generalize (10 - r)%10=x at *;go_wp2_with fail
    go_ret;refine ⟨?_, ‹h7 _ _ _›⟩;rw [v.o];simp;omega
theorem qZ (s:Bs) (b:Nat) (a:b<s.length) (k:Nat):tenSum k (s.take (b+1))=tenSum k (s.take b)+(10 - (k+b)) * (if s.getD b 0=88 then 10 else valB (s.getD b 0)):=by
 induction s generalizing b k with
 |nil=>simp at a
 |cons c l ih=>
  cases b with
  |zero=>simp [tenSum]
  |succ b=>
   have d:b<l.length:=by simpa using a
   have h:=ih b d (k+1);simp only [hJ,tenSum,hK];rw [h,show k+1+b=k+(b+1) by omega];omega
theorem wd (s:Bs) (k:Nat) (h:∀c∈s,digitB c=true∨c=88):tenSum k s<=100 * s.length:=by
 induction s generalizing k with
 |nil=>simp [tenSum]
 |cons c l ih=>
  have h1:=ih (k+1) λx d=>h x (gs _ d);have a:=h c gO;simp only [tenSum,es];have b:(if c=88 then 10 else valB c)<=10:=by
   split
   · omega
   · rcases a with a|a
     · have:=eb a;unfold valB;omega
     · contradiction
  have e:(10 - k) * (if c=88 then 10 else valB c)<=10 * 10:=hf (by omega) b;omega
theorem lV (s:Bs) (w:ex) (z:s.length=10) (f:∀c∈s,digitB c=true∨c=88):e9 prog 239 #[S s] w λe w'=>e=dk (dn (decide (tenSum 0 s%11=0)&&(s.take 9).all digitB))/\Bw w w':=by
 obtain ⟨F,w1,N,l,L,K,b,y⟩:=mI s w;have E:=Z l;have n:=Z b;have o:Hid (∀k (h:k<s.length),digitB s[k]=true∨s[k]=88):=λk h=>f _ (g0 h);have g:Hid (∀k,tenSum 0 (s.take k)<=1000):=λk=>by
  have:=wd (s.take k) 0 (λc b=>f c (iP b));have I:(s.take k).length<=10:=by rw [eQ];omega
  omega
 have P:s.length<=10:=by omega
 have Q:10<=s.length:=by omega
 have d:∀W,e9 prog 230 #[S (s.take 9)] W λe w'=>e=dk (dn ((s.take 9).all digitB))/\Bw W w':=λW=>dP _ W (by rw [eQ];omega);have d:=Z d;clear l b y f z;go_enter func239,ntmps239;go_wp2_with fail
 go_loop [3,4,5,6,10] (λD _a _c _n i=>∃(k:Nat),k<=s.length/\i=J U k/\D=J U (tenSum 0 (s.take k):Nat)) (λ_ _ _ _ i=>s.length - (intOf i).toNat)
 case atStart=>exact ⟨0,fz _,rfl,rfl⟩
 case round=>
  obtain ⟨k,O,rfl,rfl⟩:=hrel;by_cases hlt:k<s.length
  · have A:=g k;have M:=n k hlt;have a:Hid (tenSum 0 (s.take (k+1))=tenSum 0 (s.take k)+(10 - k) * (if s[k]=88 then 10 else s[k].toNat - 48)):=by unfold Hid;rw [qZ s k hlt,hb];simp [valB,ha,ib hlt]
    generalize tenSum 0 (s.take k)=q at *;have x:=o k hlt;generalize s[k]=c at *;by_cases hx:c=88
    · subst hx;rw [if_pos rfl] at a;have C:(10 - (k:Int)) * 10=(((10 - k) * 10:Nat):Int):=by omega
      generalize (10 - k) * 10=m at *;have B:m<=100:=by omega
      go_wp2_with fail
      go_round
      case rel=>exact ⟨k+1,by omega,by go_num,by rw [a.o];go_num⟩
      case measure=>simp [intOf];omega
    · rw [if_neg hx] at a;obtain ⟨h1,H⟩:=eb (x.resolve_right hx);have T:¬((c.toNat:Int)=88):=by omega
      have V:((c.toNat:Int)==88)=false:=by simp;omega
      have C:(10 - (k:Int)) * ((c.toNat:Int) - 48)=(((10 - k) * (c.toNat - 48):Nat):Int):=by
       have t:((10 - k:Nat):Int)=10 - (k:Int):=by omega
       have u:((c.toNat - 48:Nat):Int)=(c.toNat:Int) - 48:=by omega
       rw [Int.natCast_mul,t,u]
      have B:(10 - k) * (c.toNat - 48)<=10 * 9:=hf (by omega) (by omega);generalize (10 - k) * (c.toNat - 48)=m at *;go_wp2_with fail
      go_round
      case rel=>exact ⟨k+1,by omega,by go_num,by rw [a.o];go_num⟩
      case measure=>simp [intOf];omega
  · have A:=g k;have p:Hid (tenSum 0 (s.take k)=tenSum 0 s):=by unfold Hid;rw [ft (by omega)]
    have G:Int.tmod ((tenSum 0 (s.take k):Nat):Int) 11=((tenSum 0 (s.take k)%11:Nat):Int):=by rw [fy (by omega)];omega
    have j:Hid (tenSum 0 (s.take k)%11=tenSum 0 s%11):=by unfold Hid;rw [p.o]
    generalize tenSum 0 (s.take k)%11=r at *;by_cases hr:r=0
    · subst hr;go_wp2_with (go_at_call 230;((with_reducible refine dz (d.o _) ?_);rintro e w2 ⟨rfl,v⟩))
      go_ret;refine ⟨by rw [<- j.o];simp,(‹Bw w w1›).trans (v.mono (‹Bw w w1›).size)⟩
    · have R:((r:Int)==0)=false:=by simp;omega
      go_wp2_with fail
      go_ret;exact ⟨by rw [<- j.o];simp [hr], ‹h7 _ _ _›⟩
def foldN (l:Bs):Int:=l.foldl (λn c=>10 * n+((c.toNat:Int) - 48)) 0
theorem mw (l:Bs) (k:Nat) (h:k<l.length):foldN (l.take (k+1))=10 * foldN (l.take k)+((l[k].toNat:Int) - 48):=by
 unfold foldN;rw [gP h,List.foldl_append];rfl
theorem sr (l:Bs) (h:∀c∈l,digitB c=true):∀k,k<=l.length->0<=foldN (l.take k)/\foldN (l.take k)<10^k:=by
 intro k;induction k with
 |zero=>intro _;simp [foldN]
 |succ k ih=>
  intro b;have h1:=ih (by omega);have a:=eb (h _ (g0 (show k<l.length by omega)));rw [mw l k (by omega)];have:(10:Int)^(k+1)=10 * 10^k:=by rw [Int.pow_succ,Int.mul_comm]
  omega
theorem uf (s:Bs) (w:ex) (M:s.length<=1000000):e9 prog 232 #[S s] w λe w'=>e=dk (J U (aO s))/\Bw w w':=by
 by_cases hl:s.length=4
 · have H:=Z (λW=>oW ⟨s.toArray⟩ W (by show s.length<=_;omega));have b:=Z (lF s);change Hid (∀W,e9 prog 204 #[S s, .string ⟨#[48,49,50,51,52,53,54,55,56,57]⟩] W λe w'=>e=dk (S (iQ s jg))/\Bw W w') at H;generalize iQ s jg=t at *;have h1:((s.length:Int)==4)=true:=by simp;omega
   have g:((s.length:Int)!=4)=false:=by simp;omega
   by_cases hd:s.all digitB=true
   · have z:t=[]:=b.2 hd;subst z;have a:Hid (aO s=foldN s):=by unfold Hid aO;rw [if_pos ⟨hl,hd⟩];rfl
     have o:Hid (∀k,(h:k<s.length)->digitB s[k]=true):=λk h=>by rw [ht] at hd;exact hd _ (g0 h)
     have r:Hid (∀k,k<=s.length->0<=foldN (s.take k)/\foldN (s.take k)<10^k):=sr s (λc f=>by rw [ht] at hd;exact hd c f);have I:s.length<=4:=by omega
     clear hd hl b;go_enter func232,ntmps232;go_wp2_with (go_at_call 204;((with_reducible refine dz (H.o _) ?_);rintro e m ⟨rfl,d⟩;obtain ⟨D,w1,G,l,E,v,f,x⟩:=mI s m;have C:=Z l;have n:=Z f;clear l f x))
     go_loop [3,5,17] (λB _c i=>∃(k:Nat),k<=s.length/\i=J U k/\B=J U (foldN (s.take k))) (λ_ _ i=>s.length - (intOf i).toNat)
     case atStart=>exact ⟨0,fz _,rfl,rfl⟩
     case round=>
      obtain ⟨k,y,rfl,rfl⟩:=hrel;obtain ⟨K,j⟩:=r k y;have L:foldN (s.take k)<10000:=Int.lt_of_lt_of_le j (by
       have:(10:Nat)^k<=10^4:=Nat.pow_le_pow_right (by omega) (by omega);have u:(((10:Nat)^k:Nat):Int)<=((10^4:Nat):Int):=by exact_mod_cast this
       simpa using u)
      clear j;by_cases hlt:k<s.length
      · have F:=n k hlt;obtain ⟨h1,g⟩:=eb (o k hlt);have b:=Z (mw s k hlt);generalize foldN (s.take k)=q at *;go_wp2_with fail
        go_round
        case rel=>exact ⟨k+1,by omega,by go_num,by rw [b.o]⟩
        case measure=>simp [intOf];omega
      · have p:Hid (foldN (s.take k)=foldN s):=by unfold Hid;rw [ft (by omega)]
        generalize foldN (s.take k)=q at *;go_wp2_with fail
        go_ret;refine ⟨aH ?_,d.trans (v.mono d.size)⟩;rw [a.o,p.o]
   · have a:Hid (aO s= -1):=by unfold Hid aO;rw [if_neg (λh=>hd h.2)]
     have A:¬t=[]:=λh=>hd (b.1 h);clear hl hd;have N:(t==[])=false:=by simpa using A
     go_enter func232,ntmps232;go_wp2_with (go_at_call 204;((with_reducible refine dz (H.o _) ?_);rintro e m ⟨rfl,d⟩))
     go_ret;exact ⟨aH a.symm,d⟩
 · have a:Hid (aO s= -1):=by unfold Hid aO;rw [if_neg (λh=>hl h.1)]
   have h1:((s.length:Int)==4)=false:=by simp;omega
   have g:((s.length:Int)!=4)=true:=by simp;omega
   go_enter func232,ntmps232;go_wp2_with fail
   go_ret;exact ⟨aH a.symm,em _ _⟩
attribute [local go_sem] Oper.semAt_some
theorem KeepsOthers.of_below {W a:ex} (h:Bw W a):KeepsOthers W a:=
 ⟨h.size,λk _ b _=>(h.block k (ae b)).trans b⟩
theorem mW.of_below {M:Nat->Prop} {W a:ex} (h:Bw W a) (b:∀k,M k->k<W.heap.size):mW M W a:=λk c=>h.block k (b k c)
theorem cS.of_below {B:Nat} {M:Nat->Prop} {W b:ex} (h:Bw W b) (c:∀k,M k->k<W.heap.size):cS B M W M b:=
 ⟨h.os,h.tape,h.output,h.size,λk a _ _=>h.block k a,λ_ h=> .inl h,λk a=>Nat.lt_of_lt_of_le (c k a) h.size⟩
theorem iW:∀w:Bs,(h:w≠[])->stripR w=(w.take (w.length - 1)).dropWhile (· ==48)++w.drop (w.length - 1)
 |[],h=>absurd rfl h
 |[c],_=>by simp [stripR]
 |c::d::l,_=>by
  have ih:=iW (d::l) (by simp)
  unfold stripR
  have a:(c::d::l).length - 1=((d::l).length - 1)+1:=by simp
  rw [a,hJ,List.drop_succ_cons,List.dropWhile_cons]
  by_cases h:c=48
  · rw [if_pos h,if_pos (by simp [h]),ih]
  · rw [if_neg h,if_neg (by simp [h])]
    rw [List.cons_append,iv]
theorem nL (w:Bs):(stripR w).length<=w.length:=by
 by_cases h:w=[]
 · subst h;simp [stripR]
 · rw [iW w h,eg,e8];have:=List.Sublist.length_le (List.dropWhile_sublist (λx:UInt8=>x==48) (l:=w.take (w.length - 1)));rw [eQ] at this;omega
theorem yU (w:Bs):(fD w).length<=w.length+2:=by
 unfold fD;split
 · have:=nL w;simp only [es];omega
 · omega
theorem iw:∀l:List Bs,(dI l).length<=(l.map λs=>s.length+1).sum
 |[]=>by simp [dI]
 |[a]=>by simp [dI]
 |a::b::l=>by
  have:=iw (b::l)
  unfold dI
  simp only [eg,gp,gz,es,g4] at *
  omega
theorem qR (a:List Nat) (l:Bs):((bg a l).map hh).sum<=l.length+4 * a.length:=by
 induction a generalizing l with
 |nil=>unfold bg;split<;>simp
 |cons c a ih=>
  have b:=oq c;unfold bg;split
  · split
    · have:=ih [];simp only [es,g4] at *;omega
    · have:=ih [];simp only [es,g4,gp,gz] at *;omega
  · have:=ih (l++bC c);simp only [es,eg] at *;omega
theorem jP (s:Bs):((be s).map hh).sum<=4 * s.length:=by
 have h1:=qR (runesR s) [];have a:=lR s;unfold be;simp only [g4] at h1;omega
theorem rd (l:List Bs) (c:Nat):(l.map λs=>s.length+c).sum=(l.map hh).sum+c * l.length:=by
 induction l with
 |nil=>simp
 |cons a l ih=>simp only [gp,gz,es,ih,Nat.mul_add];omega
theorem mh (l:List Bs):(dI (l.map fD)).length<=(l.map hh).sum+3 * l.length:=by
 refine fr (iw _) ?_;rw [List.map_map, <- rd];induction l with
 |nil=>simp
 |cons a l ih=> have:=yU a;simp only [gp,gz,Function.comp] at *;omega
theorem lC (s x:Bs) (h:x∈be s):x.length<=4 * s.length:=by
 have h1:=jP s;have:∀l:List Bs,x∈l->x.length<=(l.map hh).sum:=by
  intro l;induction l with
  |nil=>intro h;cases h
  |cons a l ih=>
   intro h;simp only [gp,gz];rcases List.mem_cons.1 h with rfl|h
   · omega
   · have:=ih h;omega
 exact fr (this _ h) h1
theorem lU {w:ex} {B e k n:Nat} {v:fs} {a:List fs} (h:w.ownsRow B e k v n a):w.drew.ownsRow B e k v n a:=h
theorem Ab {w:ex} {B t:Nat} {v:fs} (h:Boxed w B t v):Boxed w.drew B t v:=h
theorem gF.at {w W b:ex} {a:Nat} {M:Nat->Prop} {c:List Bs} (h:gF w a M c W) (d:Bw W b):gF w a M c b:=
 gF.stable w a w.heap.size (ee _) M c W M b h (cS.of_below d λk e=>(h.lt k e).1)
theorem xN (w:ex) (o:Obj) (x:fs) (t:TypeId):∀j u,[x][j]? =X u->((w.alloc o).alloc (dy #[x] t)).drew.cell? ((⟨w.heap.size+1,0,Y⟩:Addr).add j)=X u:=by
 have h:=cell_one_new (w.alloc o) x t;rw [fl] at h;exact h
theorem zR {W b:ex} (a:Bw W b) (o c:Obj):Bw W ((b.alloc o).alloc c).drew:=
 Below.drew ((a.alloc a.size _).alloc (by have:=a.size;simp;omega) _)
theorem oE {w W i w1:ex} {a:Nat} {M:Nat->Prop} {f:List Bs} {z:Bs} {v c:fs} (h:gF w a M f W) (m:Bw W i) (H:w.heap.size<=a)
 (F:Boxed i a 81 v) (u:i.ownsRow w.heap.size 9 1 v f.length (f.map λs=>S s)) (D:∀g,v.ownBlock=X g->¬M g)
 (E:w1.ownsRow w.heap.size 9 1 c (f.length+1) ((f.map λs=>S s)++[S z])) (l:i.grownBy w1 v.ownBlock) (L:c.ownBlock=v.ownBlock∨c.ownBlock=X i.heap.size):
 Boxed w1 a 81 v/\KeepsOthers W (w1.setCell ⟨a,0,Y⟩ c)/\mW M W (w1.setCell ⟨a,0,Y⟩ c)/\gF w a M (f++[z]) (w1.setCell ⟨a,0,Y⟩ c):=by
 have G:=h.b.size;have y:=m.size;have n:=h.lt;have A:=h.box;have x:Boxed w1 a 81 v:=F.kept l (F.not_row (by decide) u);have I:Bw w (w1.setCell ⟨a,0,Y⟩ c):=h.b.trans (((m.mono G).grown l (fr G y) λj t=>(u.lt j t).1).setCell (p:=⟨a,0,Y⟩) H c);refine ⟨x,((KeepsOthers.of_below m).trans (KeepsOthers.of_grownBy l λj o t B=>?_)).trans (KeepsOthers.setCell _ _ _),λk d=>?_,⟨⟨_,x.set c,?_,λq r C=>?_⟩,I,λk d=>⟨?_,(n k d).2⟩,A⟩⟩
 · obtain ⟨N,K⟩:=aA u t;rw [K] at B;cases B;rfl
 · have h1:=(n k d).1;rw [gy _ _ _ _ (λ(e:k=a)=>A (e ▸ d)),l.block k (by omega) (λe=>D k e.symm d)];exact m.block k h1
 · rw [eg,gi];exact E.kept (grownBy_setCell' w1 a c) (.inr (x.not_row (by decide) E).symm)
 · rcases L with e|e
   · exact D q (e ▸ r) C
   · rw [e] at r;injection r with r
     have:=(n q C).1;omega
 · refine Nat.lt_of_lt_of_le (n k d).1 (fr y ?_);rw [World.size_setCell];exact l.size
theorem yw (s:Bs) (skip:Nat) (hs:s.length<=1000000) (E:skip<=1000) (w:ex):e9 prog 231 #[S s,J U skip] w λe w'=>e=dk (S (gA s skip))/\Bw w w':=by
 obtain ⟨t,N⟩:=Qe (s.drop skip);have b6:t.length<=1000000:=by rw [<- N,e8];omega
 have C:Hid (gA s skip=dI ((be t).map fD)):=by unfold Hid gA;rw [N]
 have c0:max (skip:Int) 0=skip:=by omega
 have b3:min (skip:Int) (s.length:Int)=((min skip s.length:Nat):Int):=by omega
 have bT:min skip s.length<=s.length:=Nat.min_le_right _ _;have bA:s.drop (min skip s.length)=t:=by
  rw [<- N];rcases Nat.le_total skip s.length with h|h
  · rw [Nat.min_eq_left h]
  · rw [Nat.min_eq_right h,gd h,List.drop_length]
 generalize min skip s.length=m at *;have bb:=Z b3;have b7:(w.alloc (dy #[di Y 0 0] 81)).heap.size=w.heap.size+1:=by simp
 refine (callsIn_wide (n:=10)).1 ?_;refine callsIn_of_wp_marks func231 rfl trivial ?_ rfl;simp only [ntmps231,List.size_toArray,es,g4,Nat.reduceAdd,Nat.reduceSub,Array.replicate_succ,Array.replicate_zero,List.push_toArray,List.append_toArray,hW,List.cons_append];gi_wp2_with (refine ⟨trivial,?_⟩;gi_at_call 185;refine (callsIn_wide.2 (jQ t _)).mono ?_;rintro e w1 ⟨rfl,rfl⟩)
 have b5:=jR 9 (by omega) (w.heap.size+1) t b6 ((w.alloc (dy #[di Y 0 0] 81)).alloc (dy #[S t] 9)) (by rw [<- b7,hF];rfl);have bO:Boxed ((w.alloc (dy #[di Y 0 0] 81)).alloc (dy #[S t] 9)) w.heap.size 81 (di Y 0 0):=(Boxed.new w 81 (di Y 0 0)).alloc _;have a5:Bw w ((w.alloc (dy #[di Y 0 0] 81)).alloc (dy #[S t] 9)):=((em _ w).alloc (ee _) _).alloc (by simp) _;generalize hW0:(w.alloc (dy #[di Y 0 0] 81)).alloc (dy #[S t] 9)=W0 at *;have bk:W0.heap.size=w.heap.size+2:=by rw [<- hW0];simp
 refine lz rfl (by decide) (gf:=247) (lb:= #[dx (X ⟨w.heap.size+1,0,Y⟩)]) ?hg trivial (enters_of func247 (by kernel_rfl) rfl) b5 (λk E=>E.elim) (em _ _) (λ_=>rfl)
  (λM j W=>gF w w.heap.size M (j.map fD) W) (λ_ _ _ _=>False) (λM s ac M' aC h N=>gF.stable w _ _ a5.size M (s.map fD) ac M' aC h N) (λ_ _ _ _ _ _ h _=>h) (λM s ac h k E=>(h.lt k E).1) (λ_ _ _ _ h=>h.elim)
  ⟨⟨_,bO,hP _ _ _ _,λg hg=>by cases hg⟩,a5,λk E=>E.elim,λh=>h⟩
  ?a1 ?assign ?body ?done ?stop
 case hg=>simp [Act.eval]
 case assign=>
  intro l x W K f;gi_wp2
  exact f
 case done=>
  rintro D M xs W hD hS h f;obtain ⟨v,O,F,_⟩:=h.o;have hc:=O.cell;have bc:=Z F;have HB:=Z h.b;obtain rfl:=hS;have bB:(dI ((be t).map fD)).length<=10000000:=by have:=mh (be t);have:=jP t;have:=eL t;omega
  have c7:=eL t;have HJ:=Z (mi (w:=W) (B:=w.heap.size) (n:=((be t).map fD).length) (v:=v) (l:=(be t).map fD) F (by simp;omega) (by omega));clear h F;gi_wp2_with (refine ⟨trivial,?_⟩;gi_at_call 244;refine (callsIn_wide.2 HJ.o).mono ?_;rintro e d ⟨rfl,a⟩)
  have ad:d.heap[D]? =X (.deferred (X [])):=(a.block D (ae f)).trans f;refine ⟨by simp, .inl ⟨_,_,rfl,run_takeDeferred ad,?_⟩⟩;refine ⟨_,results_tmp rfl _ _ _,by rw [C.o];rfl,(HB.o.trans (a.mono HB.o.size)).trans (belowK_b (w:=w) (ee _) d D _ _ (by have:=a5.size;omega) ad rfl rfl)⟩
 case stop=> rintro D c M j W _ _ h _;exact h.elim
 case body=>
  rintro l M j x W h hx;obtain ⟨v,O,F,al⟩:=h.o;have hc:=O.cell;obtain ⟨i0,hi,av,ax,ay⟩:=hY i9;have HB:=Z h.b;have C:=Z F;have V:=Z O;have a9:=Z al;have Q:=Z h;have au:=hx.1;have cb:x.length<=4000000:=by have:=lC t x (by obtain ⟨z,hz⟩:=hx.2;rw [<- hz];simp);omega
  have c2:j.length<100000000:=by have:=hx.2.length_le;have:=eL t;simp at *;omega
  clear h F O al hx;by_cases hd:gm x=true
  · have ca:0<x.length:=List.length_pos_iff.2 au;have ao:(x.length:Int) - 1=((x.length - 1:Nat):Int):=by omega
    have b4:x.length - 1<=x.length:=by omega
    obtain ⟨q,hq⟩:=Qe (x.length - 1);obtain ⟨y,hy⟩:=Qe (stripR x);have cc:y.length<=x.length:=by rw [<- hy];exact nL x
    have HY:Hid ((x.take q).dropWhile (· ==48)++x.drop q=y):=by unfold Hid;rw [<- hy, <- hq,iW x au]
    have R:Hid (fD x=(48+e6 (min y.length 99 / 10))::(48+e6 (min y.length 99%10))::y):=by unfold Hid fD;rw [if_pos hd,hy,UInt8.ofNat_add,UInt8.ofNat_add];rfl
    rw [hq] at ao b4;have b2:¬9223372036854775807<(List.dropWhile (· ==48) (x.take q)).length+(x.drop q).length:=by have:=congrArg hh HY.o;rw [eg] at this;omega
    have HD:Hid (∀W,e9 prog 230 #[S x] W λe w'=>e=dk (dn true)/\Bw W w'):=λW=>by have:=dP x W (by omega);unfold gm at hd;rw [hd] at this;exact this
    have b9:prog.follows .mixedOrders=true:=by kernel_rfl
    have b8:IntKind.i64.wrap (q:Int)=q:=gq _ (by omega);have c9:IntKind.i64.wrap ((x.length:Int) - 1)=q:=by rw [ao];exact b8
    have c5:(0:Int)<=q:=by omega
    have c4:(q:Int)<=(x.length:Int):=by omega
    have bD:¬9223372036854775807<(List.dropWhile (· ==48) (x.take q)).length+(x.length - q):=by rw [<- e8];exact b2
    skip;obtain ⟨n,hn⟩:=Qe (min y.length 99);have c1:n<=99:=by omega
    have bY:min (y.length:Int) 99=(n:Int):=by omega
    have c3:Int.tdiv (n:Int) 10=((n / 10:Nat):Int):=by rw [Int.tdiv_eq_ediv_of_nonneg (by omega)];omega
    have c6:Int.tmod (n:Int) 10=((n%10:Nat):Int):=by rw [fy (by omega)];omega
    rw [hn] at R;have bt:n / 10<=9:=by omega
    have bw:n%10<=9:=by omega
    generalize n / 10=d1 at *;generalize n%10=d2 at *;clear hd hy hq hn;gi_wp2_with (refine ⟨trivial,?_⟩;gi_at_call 230;refine (CallsIn.inRound l (callsIn_wide.2 (HD _))).mono ?_;rintro e d ⟨rfl,a⟩;have H:=Q.at a;have p:=Z (show Boxed d w.heap.size 81 v from (a.block _ (ae V.o)).trans V.o);have G:=Z (ah C.o λg hg=>a.block g (lS C.o g hg));have b0:=p.cell;have bp:∀o,(d.alloc o).cell? ⟨w.heap.size,0,Y⟩=X v:=λo=>(p.alloc o).cell;have bs:∀o,(d.alloc o).drew.cell? ⟨w.heap.size,0,Y⟩=X v:=λo=>(p.alloc o).cell;have a0:=Z H.b;clear H)
    have T:True:=trivial;refine nc (λ_=>True) 12 b9 (by decide) (by kernel_rfl) (λ⟨_,_,h⟩=>h) ?_;refine tk 0 ?_ rfl T ?_ ?_;rotate_left;intro w' h;go_simp;rfl;refine tk 1 ?_ rfl T ?_ ?_;rotate_left;intro w' h;go_simp;rfl;refine tk 2 ?_ rfl T ?_ ?_;rotate_left;intro w' h;go_simp;rfl;refine tk 3 ?_ rfl T ?_ ?_;rotate_left;intro w' h;go_simp;rfl;refine tk 4 ?_ rfl T ?_ ?_;rotate_left;intro w' h;go_simp;rfl;refine tk 6 ?_ rfl T ?_ ?_;rotate_left;intro w' h;go_simp;rfl;refine tk 7 ?_ rfl T ?_ ?_;rotate_left;intro w' h;go_simp;rfl;refine tk 8 ?_ rfl T ?_ ?_;rotate_left;intro w' h;go_simp;rfl;refine tk 9 ?_ rfl T ?_ ?_;rotate_left;intro w' h;go_simp;rfl;refine tk 10 ?_ rfl T ?_ ?_;rotate_left;intro w' h;go_simp;rfl;refine Dp 5 λK f=>?_;go_simp;go_at_call 282;refine (oX _ _).mono ?_;rintro e w3 ⟨rfl,rfl⟩;refine f _ _ (λ_=>T) ?_;clear f K;refine bU (i:=11) (v:=S y) rfl (by kernel_rfl) (by kernel_rfl) (by kernel_rfl) (by kernel_rfl) (by decide) (λ_ _ _ h=>h) T (Or.inl ⟨by rfl,?_⟩) ?_;focus (intro w' h;go_simp;exact HY.o)
    refine Dp 12 λK f=>?_;go_simp;refine f _ _ (λ_=>T) ?_;refine dN ?_;gi_wp2_with (gi_at_builtin;(refine wpListIn_append_own_at _ rfl _ _ 81 rfl w.heap.size 9 i0 (.string ⟨#[]⟩) 1 16 underlying81 hi av ax ay rfl ho v (hV fD j).length (hV (λs=>S s) (hV fD j)) ?_ ?_ ⟨d.heap.size+1,0,Y⟩ 1 1 [gt {data:=((48+e6 d1)::(48+e6 d2)::y).toArray}] ?_ ?_ ?_ ?_ ?_ ?_ ?_ ?_);(focus rfl);(focus exact lU ((G.o.alloc _).alloc _));(focus rfl);(focus rfl);(focus exact xN _ _ _ _);(focus simp [gQ]);(focus (unfold maxLen;rw [gb];omega));(focus (rw [gb];omega));(focus (have:=a0.o.size;simp;omega));intro v' w1 L a8 _ I;obtain ⟨g',aS,rfl⟩:=ownsRow_succ L;have a6:=zR a (dy #[hH IntKind.u8 (48+d1),hH IntKind.u8 (48+d2)] 5) (dy #[gt {data:=((48+e6 d1)::(48+e6 d2)::y).toArray}] 9);obtain ⟨P,A,u,r⟩:=oE (z:=fD x) Q.o a6 (ee _) (Ab ((p.o.alloc _).alloc _)) (lU ((G.o.alloc _).alloc _)) a9.o (by rw [R.o];exact L) a8 I;rw [gb] at A u r;have aT:=P.cell;have b1:=P.frozen;have a4:=Z A;have a3:=Z u;have a2:=Z r;clear A u r I)
    exact ⟨a4.o,a3.o,by have h:=a2.o;rw [<- i4, <- gi] at h;exact h⟩
  · have R:Hid (fD x=x):=by unfold Hid fD;rw [if_neg hd]
    have a7:gm x=false:=by simpa using hd
    have HD:Hid (∀W,e9 prog 230 #[S x] W λe w'=>e=dk (dn false)/\Bw W w'):=λW=>by have:=dP x W (by omega);unfold gm at a7;rw [a7] at this;exact this
    clear hd a7
    gi_wp2_with (first
     |(refine ⟨trivial,?_⟩;gi_at_call 230;refine (CallsIn.inRound l (callsIn_wide.2 (HD _))).mono ?_;rintro e d ⟨rfl,a⟩;have H:=Q.at a;have p:=Z (show Boxed d w.heap.size 81 v from (a.block _ (ae V.o)).trans V.o);have G:=Z (ah C.o λg hg=>a.block g (lS C.o g hg));have b0:=p.cell;have a0:=Z H.b;clear H)
     |(gi_at_builtin;(refine wpListIn_append_own_at _ rfl _ _ 81 rfl w.heap.size 9 i0 (.string ⟨#[]⟩) 1 16 underlying81 hi av ax ay rfl ho v (hV fD j).length (hV (λs=>S s) (hV fD j)) ?_ ?_ ⟨d.heap.size,0,Y⟩ 1 1 [S x] ?_ ?_ ?_ ?_ ?_ ?_ ?_ ?_);(focus rfl);(focus exact G.o.alloc _);(focus rfl);(focus rfl);(focus exact cell_one_new _ _ _);(focus simp [gQ]);(focus (unfold maxLen;rw [gb];omega));(focus (rw [gb];omega));(focus (have:=a0.o.size;simp;omega));intro v' w1 L a8 _ I;obtain ⟨g',aS,rfl⟩:=ownsRow_succ L;have a6:Bw W (d.alloc (dy #[S x] 9)):=a.alloc a.size _;obtain ⟨P,A,u,r⟩:=oE (z:=fD x) Q.o a6 (ee _) (p.o.alloc _) (G.o.alloc _) a9.o (by rw [R.o];exact L) a8 I;rw [gb] at A u r;have aT:=P.cell;have b1:=P.frozen;have a4:=Z A;have a3:=Z u;have a2:=Z r;clear A u r I))
    exact ⟨a4.o,a3.o,by have h:=a2.o;rw [<- i4, <- gi] at h;exact h⟩
def ixGo (a:Bs):List af->Nat->Option Nat
 |[],_=>Y
 |f::l,i=>if f.tag=a then X i else ixGo a l (i+1)
def ixI:Option Nat->Int
 |some k=>k
 |none=> -1
theorem xg (a:Bs) (l:List af) (i:Nat):(∃k,ixGo a l i=X k/\∃h:k - i<l.length,i<=k/\l.find? (λf=>f.tag==a)=X l[k - i])∨(ixGo a l i=Y/\l.find? (λf=>f.tag==a)=Y):=by
 induction l generalizing i with
 |nil=>exact .inr ⟨rfl,rfl⟩
 |cons f l ih=>
  unfold ixGo;by_cases h:f.tag=a
  · rw [if_pos h];exact .inl ⟨i,rfl,by simp,ee _,by simp [h]⟩
  · rw [if_neg h,List.find?_cons_of_neg (by simpa using h)];rcases ih (i+1) with ⟨k,c,h1,d,b⟩|⟨c,b⟩
    · have e:k - i=k - (i+1)+1:=by omega
      refine .inl ⟨k,c,by simp only [es];omega,by omega,?_⟩;rw [b];simp only [e,List.getElem_cons_succ]
    · exact .inr ⟨c,b⟩
theorem sf (b:Bs) (a:List af):(∃k,ixGo b a 0=X k/\∃h:k<a.length,firstF a b=X a[k])∨(ixGo b a 0=Y/\firstF a b=Y):=by
 rcases xg b a 0 with ⟨k,d,h1,_,c⟩|⟨d,c⟩
 · exact .inl ⟨k,d,h1,c⟩
 · exact .inr ⟨d,c⟩
theorem oA {a:List af} {k:Nat} (h:k<a.length):a.drop k=a[k]::a.drop (k+1):=he h
def B7 (g p:Nat) (b:Bs):Prop:=∀(a i x:Bs) (d:fs) (w:ex),w.cell? ⟨p,0,Y⟩=X (S b)->
 e9 prog g #[.agg #[S a,S i,S x,d],dx (X ⟨p,0,Y⟩)] w λe w'=>e=dk (dn (decide (a=b)))/\Bw w w'
theorem v8 (p:Nat) (c:Bs):B7 245 p c:=by
 intro a i x d w b;have e:=bi b;have f:∀o,(w.alloc o).cell? ⟨p,0,Y⟩=X (S c):=λo=>by rw [aV _ _ _ _ e];exact b
 go_enter func245,ntmps245;go_wp2_with fail
 go_ret;exact ⟨an (by rw [hX];simp),(em _ w).alloc (ee _) _⟩
theorem uD (p:Nat) (c:Bs):B7 242 p c:=by
 intro a i x d w b;have e:=bi b;have f:∀o,(w.alloc o).cell? ⟨p,0,Y⟩=X (S c):=λo=>by rw [aV _ _ _ _ e];exact b
 go_enter func242,ntmps242;go_wp2_with fail
 go_ret;exact ⟨an (by rw [hX];simp),(em _ w).alloc (ee _) _⟩
theorem nn (p:Nat) (f:Bs) (v:fs) (c:List af) (w:ex) (o:ai 0 w.heap.size w v c) (E:c.length<=1000000) (n:w.cell? ⟨p,0,Y⟩=some (S f)):
 e9 prog 241 #[v, .func (.func 245) #[] #[dx (some ⟨p,0,Y⟩)]] w λe w'=>e=dk (J U (ixI (ixGo f c 0)))/\Bw w w':=by
 have t:=Z o;have s:=Z n;obtain ⟨a,u,rfl⟩:=o.shape;have x:=bi n;clear o n;go_enter func241,ntmps241;go_wp2_with fail
 go_loopw [5,8] (λ_j i wr=>∃(k:Nat),k<=c.length/\i=J U k/\Hid (ixGo f c 0=ixGo f (c.drop k) k)/\Bw w wr) (λ_ i _=>c.length - (intOf i).toNat)
 case atStart=>exact ⟨0,fz _,rfl,rfl,em _ _⟩
 case round=>
  obtain ⟨k,D,rfl,l,g⟩:=hrel;by_cases hlt:k<c.length
  · have r:ai 0 w.heap.size wr (hI a c.length u) c:=t.kept (aX g (ee _));have q:wr.cell? ⟨p,0,Y⟩=some (S f):=((aE g).1 p 0 x).trans s.o;obtain ⟨b,F,B,d,y,C,_,z,c1,c2,A,_⟩:=r.field k hlt;cases y;have h:=Z (v8 p f c[k].tag c[k].ind c[k].data d wr q);have j:Hid (ixGo f (c.drop k) k=if c[k].tag=f then some k else ixGo f (c.drop (k+1)) (k+1)):=by unfold Hid;rw [oA hlt];rfl
    clear r q;generalize c[k].tag=T at *;generalize c[k].ind=I at *;generalize c[k].data=X at *;by_cases hT:T=f
    · rw [if_pos hT] at j;rw [show decide (T=f)=true from decide_eq_true hT] at h;clear hT;go_wp2_with (go_at_call 245;((with_reducible refine dz h.o ?_);rintro e w' ⟨rfl,m⟩))
      go_ret;exact ⟨aH (by rw [l.o,j.o];rfl),btr g m g.size⟩
    · rw [if_neg hT] at j;rw [show decide (T=f)=false from decide_eq_false hT] at h;clear hT;go_wp2_with (go_at_call 245;((with_reducible refine dz h.o ?_);rintro e w' ⟨rfl,m⟩))
      go_roundw
      case rel=>exact ⟨k+1,by omega,by go_num,by unfold Hid;rw [l.o,j.o],btr g m g.size⟩
      case measure=>simp [intOf];omega
  · go_wp2_with fail
    go_ret;refine ⟨aH ?_,g⟩;rw [l.o,gd (by omega)];rfl
theorem np (p:Nat) (f:Bs) (v:fs) (c:List af) (w:ex) (o:ai 0 w.heap.size w v c) (E:c.length<=1000000) (n:w.cell? ⟨p,0,Y⟩=some (S f)):
 e9 prog 241 #[v, .func (.func 242) #[] #[dx (some ⟨p,0,Y⟩)]] w λe w'=>e=dk (J U (ixI (ixGo f c 0)))/\Bw w w':=by
 have t:=Z o;have s:=Z n;obtain ⟨a,u,rfl⟩:=o.shape;have x:=bi n;clear o n;go_enter func241,ntmps241;go_wp2_with fail
 go_loopw [5,8] (λ_j i wr=>∃(k:Nat),k<=c.length/\i=J U k/\Hid (ixGo f c 0=ixGo f (c.drop k) k)/\Bw w wr) (λ_ i _=>c.length - (intOf i).toNat)
 case atStart=>exact ⟨0,fz _,rfl,rfl,em _ _⟩
 case round=>
  obtain ⟨k,D,rfl,l,g⟩:=hrel;by_cases hlt:k<c.length
  · have r:ai 0 w.heap.size wr (hI a c.length u) c:=t.kept (aX g (ee _));have q:wr.cell? ⟨p,0,Y⟩=some (S f):=((aE g).1 p 0 x).trans s.o;obtain ⟨b,F,B,d,y,C,_,z,c1,c2,A,_⟩:=r.field k hlt;cases y;have h:=Z (uD p f c[k].tag c[k].ind c[k].data d wr q);have j:Hid (ixGo f (c.drop k) k=if c[k].tag=f then some k else ixGo f (c.drop (k+1)) (k+1)):=by unfold Hid;rw [oA hlt];rfl
    clear r q;generalize c[k].tag=T at *;generalize c[k].ind=I at *;generalize c[k].data=X at *;by_cases hT:T=f
    · rw [if_pos hT] at j;rw [show decide (T=f)=true from decide_eq_true hT] at h;clear hT;go_wp2_with (go_at_call 242;((with_reducible refine dz h.o ?_);rintro e w' ⟨rfl,m⟩))
      go_ret;exact ⟨aH (by rw [l.o,j.o];rfl),btr g m g.size⟩
    · rw [if_neg hT] at j;rw [show decide (T=f)=false from decide_eq_false hT] at h;clear hT;go_wp2_with (go_at_call 242;((with_reducible refine dz h.o ?_);rintro e w' ⟨rfl,m⟩))
      go_roundw
      case rel=>exact ⟨k+1,by omega,by go_num,by unfold Hid;rw [l.o,j.o],btr g m g.size⟩
      case measure=>simp [intOf];omega
  · go_wp2_with fail
    go_ret;refine ⟨aH ?_,g⟩;rw [l.o,gd (by omega)];rfl
def bI (b:List cB) (a:Bs):List Bs:=(b.filter λs=>a.contains s.code).map cB.text
theorem lH (a:List cB) (b:Bs) (k:Nat) (h:k<a.length):bI (a.take (k+1)) b=bI (a.take k) b++if b.contains a[k].code then [a[k].text] else []:=by
 unfold bI;rw [gP h,hO,gi];congr 1
 generalize a[k]=x;by_cases hc:b.contains x.code=true
 · rw [if_pos hc];simp only [fx,hc,if_true,List.filter_nil,gp,List.map_nil]
 · rw [if_neg hc];simp only [fx,hc,List.filter_nil];rfl
theorem il (a:List cB) (b:Bs):(bI a b).length<=a.length:=by
 unfold bI;rw [gb];exact iF _ _
theorem lI (a:List cB) (b:Bs) (N:Nat) (h:∀s∈a,s.text.length<=N):(dI (bI a b)).length<=a.length * (N+1):=by
 refine fr (iw _) ?_;unfold bI;induction a with
 |nil=>simp
 |cons s a ih=>
  have h1:=h s gO;have d:=ih λx c=>h x (gs _ c);rw [fx];split
  · simp only [gp,gz,es,Nat.succ_mul];omega
  · simp only [es,Nat.succ_mul];omega
theorem iA (w:ex) (o:Obj) (x:fs) (t:TypeId):∀j u,[x][j]? =X u->((w.alloc o).alloc (dy #[x] t)).cell? ((⟨w.heap.size+1,0,Y⟩:Addr).add j)=X u:=by
 have h:=cell_one_new (w.alloc o) x t;rw [fl] at h;exact h
theorem qY (a i x:Bs) (d:fs) (f:List cB) (c:UInt8) (w:ex) (y:aD 0 w.heap.size w d f) (V:f.length<=1000000) (t:∀s∈f,s.text.length<=1000000):
 e9 prog 183 #[.agg #[S a,S i,S x,d],J dp c.toNat] w λe w'=>e=dk (S (textS f [c]))/\Bw w w':=by
 have M:=Z y;have I:Hid ((dI (bI f [c])).length<=140737488355328):=by have h1:=lI f [c] 1000000 t;have:f.length * (1000000+1)<=1000000 * 1000001:=hf V (ee _);unfold Hid;omega
 obtain ⟨O,P,rfl,_⟩:=y;clear t;obtain ⟨i0,r,A,n,B⟩:=hY i9;have E:=Z r;have F:=Z A;have G:=Z n;have H:=Z B;clear r A n B;go_enter func183,ntmps183;go_wp2_with fail
 go_loopw [5,11] (λv j wr=>∃(k:Nat),k<=f.length/\j=J U k/\Hid (wr.ownsRow (w.heap.size+1) 9 1 v (bI (f.take k) [c]).length ((bI (f.take k) [c]).map λs=>S s))/\Bw w wr/\w.heap.size+1<=wr.heap.size) (λ_ j _=>f.length - (intOf j).toNat)
 case atStart=>exact ⟨0,fz _,rfl,hP _ _ _ _,(em _ w).alloc (ee _) _,by simp⟩
 case round=>
  obtain ⟨k,hk,rfl,l,g,hz⟩:=hrel;by_cases hlt:k<f.length
  · have z:aD 0 w.heap.size wr (hI O f.length P) f:=M.kept (aX g (ee _));obtain ⟨b,a3,a0,W,p,q,c0,c1⟩:=z.sub k hlt;cases W;have m:=Z (lH f [c] k hlt);clear z;generalize f[k].code=C at *;generalize f[k].text=T at *;have R:(bI (f.take k) [c]).length<=1000000:=by have:=il (f.take k) [c];rw [eQ] at this;omega
    generalize bI (f.take k) [c]=L at *;have a2:b<wr.heap.size:=by omega
    by_cases hC:C=c
    · subst hC;rw [if_pos (by simp)] at m;go_wp2_with (at_builtin;(refine g9 _ rfl _ _ 81 rfl (w.heap.size+1) 9 i0 (.string ⟨#[]⟩) 1 16 underlying81 E.o F.o G.o H.o rfl ho u5 L.length (L.map λs=>S s) ?_ ?_ ⟨wr.heap.size+1,0,Y⟩ 1 1 [S T] ?_ ?_ ?_ ?_ ?_ ?_ ?_ ?_);(focus rfl);(focus exact ((l.o.alloc _).alloc _));(focus rfl);(focus rfl);(focus exact iA _ _ _ _);(focus simp [gQ]);(focus (unfold maxLen;omega));(focus omega);(focus (simp;omega));intro v' w1 u o _ _;have p:Bw w w1:=((g.alloc g.size _).alloc (by have:=g.size;simp;omega) _).grown o (by have:=g.size;simp;omega) (λj Q=>by have:=(l.o.lt j Q).1;omega);have n:=o.size;have K:=Z u;clear u o)
      go_roundw
      case rel=>exact ⟨k+1,by omega,by go_num,by unfold Hid;rw [m.o,eg,gi];exact K.o,p,by simp at n;omega⟩
      case measure=>simp [intOf];omega
    · rw [if_neg (by simpa using hC),g5] at m;have a1:((C.toNat:Int)==(c.toNat:Int))=false:=by have:C.toNat≠c.toNat:=λh=>hC (UInt8.toNat_inj.1 h);simp;omega
      clear hC;go_wp2_with fail
      go_roundw
      case rel=>exact ⟨k+1,by omega,by go_num,by unfold Hid;rw [m.o];exact l.o.alloc _,g.alloc g.size _,by simp;omega⟩
      case measure=>simp [intOf];omega
  · have N:Hid (bI (f.take k) [c]=bI f [c]):=by unfold Hid;rw [ft (by omega)]
    rw [N.o] at l;have R:=il f [c];have D:=Z (mi (w:=wr) l.o (by omega) I.o);go_wp2_with (go_at_call 244;((with_reducible refine dz D.o ?_);rintro e w2 ⟨rfl,q⟩))
    go_ret;exact ⟨rfl,btr g q g.size⟩
def bigC (v:fs):Array fs:=Array.replicate 256 (di Y 0 0)++ #[v]
theorem ed (v:fs):(bigC v).size=257:=by simp [bigC]
theorem ku (v:fs) (k:Nat) (a:k<256):(bigC v)[k]? =X (di Y 0 0):=by
 unfold bigC;rw [g7 (by simpa using a)];simp [a]
theorem lu (v:fs):(bigC v)[256]? =X v:=by
 unfold bigC;rw [Array.getElem?_append_right (by simp)];simp
theorem vU (v u:fs):(bigC v).setIfInBounds 256 u=bigC u:=by
 apply Array.ext_getElem?;intro i;rw [Array.getElem?_setIfInBounds,ed];by_cases h:256=i
 · subst h;simp [lu]
 · rw [if_neg h];by_cases h2:i<256
   · rw [ku _ _ h2,ku _ _ h2]
   · rw [it (by rw [ed];omega),it (by rw [ed];omega)]
theorem kr {w:ex} {g:Nat} {v:fs} (h:w.heap[g]? =X (dy (bigC v) 403 (0,0))):w.cell? ⟨g,256,Y⟩=X v/\w.cell? ⟨g,45,Y⟩=X (di Y 0 0)/\w.cell? ⟨g,32,Y⟩=X (di Y 0 0):=
 ⟨(aa h 256).trans (lu v),(aa h 45).trans (ku v 45 (by decide)),(aa h 32).trans (ku v 32 (by decide))⟩
def gG (v e:fs):Array fs:=(bigC v).setIfInBounds 45 e
theorem oK (v e:fs):(gG v e).size=257:=by unfold gG;rw [Array.size_setIfInBounds,ed]
theorem Ad (v e u:fs):(gG v e).setIfInBounds 256 u=gG u e:=by
 unfold gG;rw [<- vU v u,Array.setIfInBounds_comm _ _ (by decide)]
theorem jk {w:ex} {g:Nat} {v e:fs} (h:w.heap[g]? =X (dy (gG v e) 403 (0,0))):w.cell? ⟨g,256,Y⟩=X v/\w.cell? ⟨g,32,Y⟩=X (di Y 0 0):=by
 refine ⟨(aa h 256).trans ?_,(aa h 32).trans ?_⟩
 · unfold gG;rw [e5 (by decide)];exact lu v
 · unfold gG;rw [e5 (by decide)];exact ku v 32 (by decide)
def mS (lo:Nat) (W:ex) (g:Nat):Prop:=∃(a:Option Addr) (c b1 k1 b2 k2:Nat),W.heap[g]? =X (dy ((gG (di a 2 c) (di (X ⟨b1,0,Y⟩) 0 k1)).setIfInBounds 32 (di (X ⟨b2,0,Y⟩) 0 k2)) 403 (0,0))/\W.ownsRow lo 9 1 (di a 2 c) 2 [S [45],S [32]]
theorem x9:Tryz.zeroCells403=bigC (di Y 0 0):=by kernel_rfl
theorem BH (v:fs):Tryz.zeroCells403.toList.set 256 v=(bigC v).toList:=by kernel_rfl
theorem wj (g:Nat) (a:Option Addr) (n k:Nat) (b:Array fs) (w:ex) (h:w.heap[g]? =X (dy b 403 (0,0))) (d:b.size=257):
 ∃w',(storeCells ⟨g,0,Y⟩ (Tryz.zeroCells403.toList.set 256 (di a n k))).run prog w= .ok () w'/\w'.heap[g]? =X (dy (bigC (di a n k)) 403 (0,0))/\aw g w w':=by
 have f:(bigC (di a n k)).toList.length=257:=by rw [iS,ed]
 have h1:∀v∈(bigC (di a n k)).toList,v.oneCell'=true:=by intro v i;simp only [bigC,Array.toList_append,Array.toList_replicate,List.mem_append,List.mem_replicate,List.mem_singleton] at i;rcases i with ⟨_,rfl⟩|rfl<;>rfl
 have c:=run_storeCells_at (P:=prog) g 0 403 (bigC (di a n k)).toList 0 b w h (by rw [f,d];omega) h1;rw [f] at c;have e:(b.toList.take (0+0)++(bigC (di a n k)).toList++b.toList.drop (0+0+257)).toArray=bigC (di a n k):=by
  have:b.toList.drop (0+0+257)=[]:=by apply List.drop_eq_nil_of_le;rw [iS,d];omega
  rw [this];simp
 rw [e] at c;rw [BH];exact ⟨w.setRow g (bigC (di a n k)),c,setRow_heap w g b _ 403 (0,0) h,setRow_os _ _ _,setRow_tape _ _ _,setRow_output _ _ _,setRow_size _ _ _,λk j=>setRow_other w g k _ j⟩
theorem zB (w:ex):(binOp .eql 76 (di Y 0 0) (di Y 0 0)).run prog w= .ok (dn true) w:=by kernel_rfl
theorem rO (w:ex):(binOp .neq 76 (di Y 0 0) (di Y 0 0)).run prog w= .ok (dn false) w:=by kernel_rfl
theorem nW (g n k:Nat) (w:ex):(binOp .neq 76 (di (X ⟨g,0,Y⟩) n k) (di Y 0 0)).run prog w= .ok (dn true) w:=by kernel_rfl
theorem mC (W:ex):∃(k:Nat) (W':ex),(convert 9 76 (S [])).run prog W= .ok (di (X ⟨W.heap.size,0,Y⟩) 0 k) W'/\Bw W W':=by
 refine ⟨_,_,Lib.run_convert_string_bytes W 9 76 5 ⟨#[]⟩ underlying9 underlying76 underlying5,rfl,rfl,rfl,?_,λk a=>Lib.bytesWorld_at_old _ _ _ _ a⟩;rw [Lib.bytesWorld_size];omega
def onC (cs:Array fs):Array fs:= #[S [32],S [],S [45],S []]++cs
theorem iJ (cs:Array fs):(onC cs)[0]? =X (S [32])/\(onC cs)[1]? =X (S [])/\(onC cs)[2]? =X (S [45])/\(onC cs)[3]? =X (S []):=by
 unfold onC;refine ⟨?_,?_,?_,?_⟩<;>(rw [g7 (by simp)];rfl)
theorem AQ (w:ex):(Instr.makeSlice 81 (J U 0) (J U 2)).run prog w= .ok (di (X ⟨w.heap.size,0,Y⟩) 0 2) (w.alloc (dy #[S [],S []] 9)):=by kernel_rfl
theorem xR (R on kk:Nat) (cs:Array fs) (x y z q:fs) (w:ex) (hR:w.heap[R]? =X (dy #[x,y,z,q,di (X ⟨on,0,Y⟩) 4 kk] 355 (0,0))) (p:w.heap[on]? =X (dy (onC cs) 9 (0,0))):
 e9 prog 322 #[dx (X ⟨R,0,Y⟩)] w λe w'=>e=dk (.iface 404 (dx (X ⟨w.heap.size+1,0,Y⟩)))/\Bw w w'/\mS w.heap.size w' (w.heap.size+1)/\w.heap.size+1<w'.heap.size:=by
 have r4:w.cell? ⟨R,4,Y⟩=X (di (X ⟨on,0,Y⟩) 4 kk):=(aa hR 4).trans rfl;have n0:w.cell? ⟨on,0,Y⟩=X (S [32]):=(aa p 0).trans (iJ cs).1;have n1:w.cell? ⟨on,1,Y⟩=X (S []):=(aa p 1).trans (iJ cs).2.1;have n2:w.cell? ⟨on,2,Y⟩=X (S [45]):=(aa p 2).trans (iJ cs).2.2.1;have n3:w.cell? ⟨on,3,Y⟩=X (S []):=(aa p 3).trans (iJ cs).2.2.2;have HR:=Z hR;have HO:=Z p;clear hR p;go_enter func322,ntmps322;go_wp2_with fail
 refine g1 3 ?_;rw [fc];go_wp2_with fail
 rw [fc];go_wp2_with fail
 rw [fc];go_upto_region 26 with fail
 have b9:=AQ w;obtain ⟨w1,E⟩:=Qe (w.alloc (dy #[S [],S []] 9));have T:w1.heap.size=w.heap.size+1:=by rw [<- E];simp
 have b6:w1.heap[w.heap.size]? =X (dy #[S [],S []] 9 (0,0)):=by rw [<- E];exact er w _
 have b7:Bw w w1:=by rw [<- E];exact (em _ w).alloc (ee _) _
 rw [E] at b9;obtain ⟨i,Q⟩:=Qe (w1.alloc (dy Tryz.zeroCells403 403));have b5:i.heap[w1.heap.size]? =X (dy Tryz.zeroCells403 403 (0,0)):=by rw [<- Q];exact er w1 _
 have ad:Bw w1 i:=by rw [<- Q];exact (em _ w1).alloc (ee _) _
 obtain ⟨a,bc,a8,bb⟩:=wj w1.heap.size (X ⟨w.heap.size,0,Y⟩) 0 2 _ i b5 (by rw [x9];exact ed _);rw [T] at bc a8;have c9:Hid (Bw w i):=b7.trans (ad.mono (by omega));have c6:Hid (i.heap[w.heap.size]? =X (dy #[S [],S []] 9 (0,0))):=(ad.block _ (by omega)).trans b6;have a3:Hid (aw (w.heap.size+1) i a):=by rw [<- T];exact bb
 have H:=Z a8;have cb:Hid (i.heap.size=w.heap.size+2):=by unfold Hid;rw [<- Q];simp [T]
 clear b5 ad a8 bb b6 b7;go_wp2_with fail
 have al:Bw w a:=c9.o.trans (a3.o.below (by omega));have aS:on<w.heap.size:=ae HO.o;have r:a.heap[on]? =X (dy (onC cs) 9 (0,0)):=(al.block _ aS).trans HO.o;have t:a.heap[w.heap.size]? =X (dy #[S [],S []] 9 (0,0)):=(a3.o.block _ (by omega)).trans c6.o;obtain ⟨cc,cd,_⟩:=kr H.o;have cm:=ab H.o 45;have cl:=ab H.o 256;have m0:a.cell? ⟨on,0,Y⟩=X (S [32]):=(aa r 0).trans (iJ cs).1;have m1:a.cell? ⟨on,1,Y⟩=X (S []):=(aa r 1).trans (iJ cs).2.1;have m2:a.cell? ⟨on,2,Y⟩=X (S [45]):=(aa r 2).trans (iJ cs).2.2.1;have m3:a.cell? ⟨on,3,Y⟩=X (S []):=(aa r 3).trans (iJ cs).2.2.2;have t0:a.cell? ⟨w.heap.size,0,Y⟩=X (S []):=(aa t 0).trans rfl;have t1:a.cell? ⟨w.heap.size,1,Y⟩=X (S []):=(aa t 1).trans rfl;have ft0:=ab t 0;have cp:=ab t 1;have aT:a.heap.size=w.heap.size+2:=by rw [a3.o.size];exact cb.o
 have d6:¬(w.heap.size+1=w.heap.size):=by omega
 have d7:¬(w.heap.size=w.heap.size+1):=by omega
 have bA:=Z al;have c1:=Z r;have c7:=Z t;have A:=Z aT;have c2:=Z aS;clear al aS r t aT r4 n0 n1 n2 n3 T b9 bc E Q;have d5:=zB;obtain ⟨i0,hi,bk,bp,bs⟩:=hY i9;have HI:=Z hi;have b1:=Z bk;have b2:=Z bp;have b3:=Z bs;have c3:Hid (a.ownsRow w.heap.size 9 1 (di (X ⟨w.heap.size,0,Y⟩) 0 2) 0 (([]:List Bs).map λs=>S s)):=⟨by simp, .inr ⟨w.heap.size,2, #[S [],S []],rfl,ee _,c7.o,by omega,by unfold maxLen;omega,by simp,by simp⟩⟩;clear hi bk bp bs t0 t1 ft0 cp;refine g1 3 ?_;rw [fc];go_upto_region 33 with fail
 go_wp2_with (at_builtin;go_loud ((refine g9 _ rfl _ _ 81 rfl w.heap.size 9 i0 (.string ⟨#[]⟩) 1 16 underlying81 HI.o b1.o b2.o b3.o rfl ho (di (X ⟨w.heap.size,0,Y⟩) 0 2) 0 (([]:List Bs).map λs=>S s) ?_ ?_ ⟨a.heap.size+1,0,Y⟩ 1 1 [S [45]] ?_ ?_ ?_ ?_ ?_ ?_ ?_ ?_);(focus rfl);(focus exact ((c3.o.alloc _).alloc _));(focus rfl);(focus rfl);(focus exact iA _ _ _ _);(focus simp [gQ]);(focus (unfold maxLen;omega));(focus omega);(focus (have:=A.o;simp;omega));intro v' b m l _ _;obtain ⟨V,n,rfl⟩:=bF m;have B:b.heap[w.heap.size+1]? =X (dy (bigC (di (X ⟨w.heap.size,0,Y⟩) 0 2)) 403 (0,0)):=(l.block _ (by have:=A.o;simp;omega) (λe=>(by have c:X (w.heap.size+1)=X w.heap.size:=e;simp at c))).trans (by rw [e7 _ _ _ (by have:=A.o;simp;omega),e7 _ _ _ (by have:=A.o;omega)];exact H.o);obtain ⟨a6,b4,I⟩:=kr B;have a7:=ab B 256;have bt:=l.size;have K:=ap B 256 (di V 1 n);rw [vU] at K;obtain ⟨F,w5,ax,ao⟩:=mC (b.setCell ⟨w.heap.size+1,256,Y⟩ (di V 1 n));have N:w5.heap[w.heap.size+1]? =X (dy (bigC (di V 1 n)) 403 (0,0)):=(ao.block _ (ae K)).trans K;obtain ⟨_,b4,I⟩:=kr N;have cv:=ab N 45;have bD:=Z B;have bO:=Z N;have a0:=Z ao;have a4:=Z m;have a2:=Z l;clear B N K ao m l bt))
 have aT:=A.o;have bt:a.heap.size+2<=b.heap.size:=by have:=a2.o.size;simpa using this
 have cz:b.heap.size<=w5.heap.size:=by have:=a0.o.size;simpa using this
 obtain ⟨bv,rfl,M⟩:∃bv,V=X ⟨bv,0,Y⟩/\w.heap.size<=bv/\bv≠w.heap.size+1/\bv<b.heap.size:=by
  obtain ⟨g,cg,h,ay,aC⟩:=hj a4.o (by omega);injection h with h _ _
  obtain ⟨cu,av⟩:=aA a4.o (g:=g) (by rw [h];rfl);exact ⟨g,h,ay,df av bD.o (by decide),aC⟩
 obtain ⟨d,u⟩:=Qe (w5.setCell ⟨w.heap.size+1,45,Y⟩ (di (X ⟨b.heap.size,0,Y⟩) 0 F));have a9:d.heap[w.heap.size+1]? =X (dy (gG (di (X ⟨bv,0,Y⟩) 1 n) (di (X ⟨b.heap.size,0,Y⟩) 0 F)) 403 (0,0)):=by rw [<- u];exact ap bO.o 45 _
 have P:∀q,q<b.heap.size->q≠w.heap.size+1->d.heap[q]? =b.heap[q]? :=λq hq D=>by rw [<- u,gy _ _ _ _ D,a0.o.block q (by simpa using hq),gy _ _ _ _ D]
 have d8:b.heap.size<=d.heap.size:=by rw [<- u];simpa using cz
 have ac:d.heap[on]? =X (dy (onC cs) 9 (0,0)):=by have:=c2.o;rw [P on (by omega) (by omega),a2.o.block on (by simp;omega) (λe=>(by have c:X on=X w.heap.size:=e;injection c with c;omega)),e7 _ _ _ (by simp;omega),e7 _ _ _ (by omega)];exact c1.o
 have p0:d.cell? ⟨on,0,Y⟩=X (S [32]):=(aa ac 0).trans (iJ cs).1;have p1:d.cell? ⟨on,1,Y⟩=X (S []):=(aa ac 1).trans (iJ cs).2.1;obtain ⟨dc,dd⟩:=jk a9;have c4:Hid (d.ownsRow w.heap.size 9 1 (di (X ⟨bv,0,Y⟩) 1 n) 1 (([[45]]:List Bs).map λs=>S s)):=ah a4.o (λg hg=>by
  have c:bv=g:=by have:X bv=X g:=hg;injection this
  subst c;exact P _ M.2.2 M.2.1)
 have bT:=Z a9;have d0:=Z P;have cQ:=Z M;have ca:=Z u;rw [u];clear u P a9 ac ax a6 b4 I a7 cv cc cd cm cl m0 m1 m2 m3;obtain ⟨d1,d2,d3⟩:=M;rw [fc];go_upto_region 33 with fail
 go_wp2_with (at_builtin;go_loud ((refine g9 _ rfl _ _ 81 rfl w.heap.size 9 i0 (.string ⟨#[]⟩) 1 16 underlying81 HI.o b1.o b2.o b3.o rfl ho (di (X ⟨bv,0,Y⟩) 1 n) 1 (([[45]]:List Bs).map λs=>S s) ?_ ?_ ⟨d.heap.size+1,0,Y⟩ 1 1 [S [32]] ?_ ?_ ?_ ?_ ?_ ?_ ?_ ?_);(focus rfl);(focus exact ((c4.o.alloc _).alloc _));(focus rfl);(focus rfl);(focus exact iA _ _ _ _);(focus simp [gQ]);(focus (unfold maxLen;omega));(focus omega);(focus (simp;omega));intro v' f m l _ _;obtain ⟨W,vd,rfl⟩:=bF m;have C:f.heap[w.heap.size+1]? =X (dy (gG (di (X ⟨bv,0,Y⟩) 1 n) (di (X ⟨b.heap.size,0,Y⟩) 0 F)) 403 (0,0)):=(l.block _ (by simp;omega) (λe=>(by have c:X (w.heap.size+1)=X bv:=e;injection c with c;omega))).trans (by rw [e7 _ _ _ (by simp;omega),e7 _ _ _ (by omega)];exact bT.o);obtain ⟨a6,I⟩:=jk C;have a7:=ab C 256;have L:=ap C 256 (di W 2 vd);rw [Ad] at L;obtain ⟨k9,G,ax,au⟩:=mC (f.setCell ⟨w.heap.size+1,256,Y⟩ (di W 2 vd));have O:G.heap[w.heap.size+1]? =X (dy (gG (di W 2 vd) (di (X ⟨b.heap.size,0,Y⟩) 0 F)) 403 (0,0)):=(au.block _ (ae L)).trans L;obtain ⟨_,ch⟩:=jk O;have cq:=ab O 32;have bY:=Z C;have c0:=Z O;have a1:=Z au;have a5:=Z m;have b0:=Z l;clear C O L au m l))
 obtain ⟨k,rfl,d4,cx,cy⟩:∃k,W=X ⟨k,0,Y⟩/\w.heap.size<=k/\k≠w.heap.size+1/\k<f.heap.size:=by
  obtain ⟨g,cg,h,ay,aC⟩:=hj a5.o (by omega);injection h with h _ _
  obtain ⟨cu,av⟩:=aA a5.o (g:=g) (by rw [h];rfl);exact ⟨g,h,ay,df av bY.o (by decide),aC⟩
 have d9:d.heap.size+2<=f.heap.size:=by have:=b0.o.size;simpa using this
 have da:f.heap.size<=G.heap.size:=by have:=a1.o.size;simpa using this
 obtain ⟨o,v⟩:=Qe (G.setCell ⟨w.heap.size+1,32,Y⟩ (di (X ⟨f.heap.size,0,Y⟩) 0 k9));have b8:∀q,q<f.heap.size->q≠w.heap.size+1->o.heap[q]? =f.heap[q]? :=λq hq D=>by rw [<- v,gy _ _ _ _ D,a1.o.block q (by simpa using hq),gy _ _ _ _ D]
 have c5:Hid (mS w.heap.size o (w.heap.size+1)):=⟨X ⟨k,0,Y⟩,vd,b.heap.size,F,f.heap.size,k9,by rw [<- v];exact ap c0.o 32 _,ah a5.o (λg hg=>by
  have c:k=g:=by have:X k=X g:=hg;injection this
  subst c;exact b8 _ cy cx)⟩
 have bB:Hid (Bw w o):=by
  have h3:Bw w a:=bA.o;have h4:Bw w b:=(((h3.alloc (by omega) _).alloc (by simp;omega) _)).grown a2.o (by simp;omega) (λj ej=>by have c:w.heap.size=j:=by {have:X w.heap.size=X j:=ej;injection this};omega);have h5:Bw w w5:=(h4.setCell (by simp) _).trans (a0.o.mono (by simp;omega));have h6:Bw w d:=by rw [<- ca.o];exact h5.setCell (by simp) _
  have h8:Bw w f:=(((h6.alloc (by omega) _).alloc (by simp;omega) _)).grown b0.o (by simp;omega) (λj ej=>by have c:bv=j:=by {have:X bv=X j:=ej;injection this};omega);have h9:Bw w G:=(h8.setCell (by simp) _).trans (a1.o.mono (by simp;omega));have:Bw w (G.setCell ⟨w.heap.size+1,32,Y⟩ (di (X ⟨f.heap.size,0,Y⟩) 0 k9)):=h9.setCell (by simp) _;rw [v] at this;exact this
 have cP:w.heap.size+1<o.heap.size:=by rw [<- v];simp;omega
 rw [v];clear v b8 ax a6 I ch a7 cq;rw [fc];go_wp2_with fail
 go_ret;exact ⟨rfl,bB.o,c5.o,cP⟩
theorem yR (R on f N:Nat) (cs:Array fs) (z:R<N):kC R (di (X ⟨on,0,Y⟩) 4 f) (.iface 404 (dx (X ⟨N+1,0,Y⟩)))
 (λw=>w.heap.size=N/\w.heap[on]? =X (dy (onC cs) 9 (0,0))) (λw w'=>ag (λq=>q=R) w (λq=>q=R) w'/\mS N w' (N+1)):=by
 intro w y h;obtain ⟨rfl,l⟩:=y;have o:=Z (xR R on f cs _ _ _ _ w h l);have p:=Z h;clear h l;go_enter func289,ntmps289;go_wp2_with (go_at_call 322;refine dz o.o ?_;rintro e d ⟨rfl,i,m,H⟩;have b:d.heap[R]? =X (dy #[J .u32 0,J ds 1,J .u32 0, .nilIface,di (X ⟨on,0,Y⟩) 4 f] 355 (0,0)):=(i.block R z).trans p.o;have D:d.cell? ⟨R,3,Y⟩=X .nilIface:=(aa b 3).trans rfl;have E:d.cell? ⟨R,4,Y⟩=X (di (X ⟨on,0,Y⟩) 4 f):=(aa b 4).trans rfl;have F:=ab b 3;have G:=ab b 4;have r:=Z b;have n:=Z i;have s:=Z m;clear b i m)
 refine bodyPost_end (results_none rfl _ _ _) rfl ?_;have h1:=ap r.o 3 (.iface 404 (dx (X ⟨w.heap.size+1,0,Y⟩)));have x:=ap h1 4 (di Y 0 0);have j:aw R d ((d.setCell ⟨R,3,Y⟩ (.iface 404 (dx (X ⟨w.heap.size+1,0,Y⟩)))).setCell ⟨R,4,Y⟩ (di Y 0 0)):=((aw.refl R d).setCell 3 _).setCell 4 _;refine ⟨rfl,x,(ag.of_below n.o).trans (ag.of_only j rfl),?_⟩;obtain ⟨a,c,t,B,u,C,v,k⟩:=s.o;exact ⟨a,c,t,B,u,C,(j.block _ (by omega)).trans v,ah k (λg A=>j.block g (λe=>by have:=(k.lt g A).1;omega))⟩
theorem AO (w:ex) (A:Nat) (b:w.heap[A]? =X (dy #[S [32],S [],S [45],S []] 9 (0,0))):e9 prog 237 #[di (X ⟨A,0,Y⟩) 4 4] w λe w'=>∃R on a cs,e=dk (dx (X ⟨R,0,Y⟩))/\w.heap.size<=R/\w.heap.size<=on/\R≠on/\
 w'.heap[R]? =X (dy #[J .u32 0,J ds 0,J .u32 0, .nilIface,di (X ⟨on,0,Y⟩) 4 a] 355 (0,0))/\w'.heap[on]? =X (dy (onC cs) 9 (0,0))/\Bw w w':=by
 have c:w.cell? ⟨A,0,Y⟩=X (S [32]):=(aa b 0).trans rfl;have d:w.cell? ⟨A,1,Y⟩=X (S []):=(aa b 1).trans rfl;have f:w.cell? ⟨A,2,Y⟩=X (S [45]):=(aa b 2).trans rfl;have g:w.cell? ⟨A,3,Y⟩=X (S []):=(aa b 3).trans rfl;clear b;go_enter func237,ntmps237;go_wp2_with fail
 generalize (Question.appendCap 4 0 9).cut (w.tape w.drawn (Question.appendCap 4 0 9))=a;refine g2 (v:=dx (X ⟨w.heap.size+1,0,Y⟩)) (by rw [results_tmp rfl];go_simp) rfl ?_;refine ⟨w.heap.size+1,w.heap.size,a,Builtin.zeroCells #[gt {data:= #[]}] (a - 4),rfl,by omega,ee _,by omega,?_,?_,?_⟩
 · have:=er (w.alloc (dy (#[S [32],S [],S [45],S []]++Builtin.zeroCells #[gt {data:= #[]}] (a - 4)) 9)) (dy #[J .u32 0,J ds 0,J .u32 0, .nilIface,di (X ⟨w.heap.size,0,Y⟩) 4 a] 355);rw [fl] at this;exact this
 · show ((w.alloc _).alloc _).heap[w.heap.size]? =_;rw [e7 _ _ _ (by simp)];exact er w _
 · exact (((em _ w).alloc (ee _) _).alloc (by simp) _).drew
def fj (b:UInt8):Bool:=decide (b=32)||decide (b=45)
def keepL (s:Bs):Bs:=s.filter λb=> !fj b
def cntL (s:Bs):Nat:=s.count 45+s.count 32
theorem xd (b:UInt8) (s:Bs):keepL (b::s)=if fj b then keepL s else b::keepL s:=by
 unfold keepL;rw [fx];cases fj b<;>rfl
theorem zU (b:UInt8) (s:Bs):cntL (b::s)=cntL s+if fj b then 1 else 0:=by
 unfold cntL;rw [List.count_cons,List.count_cons];by_cases h1:b=32
 · subst h1;have c:((32:UInt8)==45)=false:=rfl;have a:fj 32=true:=rfl;simp [c,a];omega
 · by_cases h2:b=45
   · subst h2;have c:((45:UInt8)==32)=false:=rfl;have a:fj 45=true:=rfl;simp [c,a];omega
   · have a:fj b=false:=by unfold fj;rw [decide_eq_false h1,decide_eq_false h2];rfl
     simp [h1,h2,a]
theorem gY (s:Bs):(keepL s).length+cntL s=s.length:=by
 induction s with
 |nil=>rfl
 |cons b s ih=> rw [xd,zU,es];cases fj b<;>simp<;>omega
theorem zg {s:Bs} (h:cntL s=0):keepL s=s:=by
 have h1:=gY s;rw [h] at h1;exact List.filter_eq_self.2 (λb a=>by have:(s.filter λb=> !fj b).length=s.length:=h1;exact List.length_filter_eq_length_iff.1 this b a)
theorem j6 {s:Bs} {k:Nat} (a:k<s.length):keepL (s.take (k+1))=keepL (s.take k)++(if fj s[k] then [] else [s[k]]):=by
 unfold keepL;rw [gP a,hO,fx];cases fj s[k]<;>rfl
theorem zS {s:Bs} {k:Nat} (b:k<s.length):cntL (s.take (k+1))=cntL (s.take k)+(if fj s[k] then 1 else 0):=by
 have h1:=gY (s.take (k+1));have a:=gY (s.take k);rw [j6 b,eg] at h1;rw [eQ] at h1 a;have:min (k+1) s.length=k+1:=by omega
 have:min k s.length=k:=by omega
 cases hs:fj s[k]<;>simp [hs] at h1 ⊢ <;>omega
theorem pX (s:Bs) (k:Nat):(keepL (s.take k)).length<=(keepL s).length:=by
 have:keepL s=keepL (s.take k)++keepL (s.drop k):=by unfold keepL;rw [<- hO,iv]
 rw [this,eg];omega
def byteRow (l:Bs):Array fs:=(l.map λb=>hH dp b.toNat).toArray
def ji (s:Bs) (k:Nat):Bs:=keepL (s.take k)++gc ((keepL s).length - (keepL (s.take k)).length) 0
theorem sX (s:Bs) (k:Nat):(ji s k).length=(keepL s).length:=by
 unfold ji;have:=pX s k;rw [eg,List.length_replicate];omega
theorem xS (s:Bs):ji s 0=gc (keepL s).length 0:=by unfold ji;simp [keepL]
theorem Aa (s:Bs):ji s s.length=keepL s:=by unfold ji;simp
theorem xT {s:Bs} {k:Nat} (a:k<s.length) (h:fj s[k]=true):ji s (k+1)=ji s k/\(keepL (s.take (k+1))).length=(keepL (s.take k)).length:=by
 have h1:keepL (s.take (k+1))=keepL (s.take k):=by rw [j6 a,if_pos h,g5]
 unfold ji;rw [h1];exact ⟨rfl,rfl⟩
theorem z8 {s:Bs} {k:Nat} (b:k<s.length) (h:fj s[k]=false):ji s (k+1)=(ji s k).set (keepL (s.take k)).length s[k]/\(keepL (s.take (k+1))).length=(keepL (s.take k)).length+1/\(keepL (s.take k)).length<(keepL s).length:=by
 have h1:keepL (s.take (k+1))=keepL (s.take k)++[s[k]]:=by rw [j6 b,h];rfl
 have a:=pX s (k+1);rw [h1,eg] at a;simp only [iD] at a;refine ⟨?_,by rw [h1];simp,by omega⟩;unfold ji;rw [h1,eg,iD];obtain ⟨m,c⟩:∃m,(keepL s).length - (keepL (s.take k)).length=m+1:=⟨(keepL s).length - (keepL (s.take k)).length - 1,by omega⟩;have d:(keepL s).length - ((keepL (s.take k)).length+1)=m:=by omega
 rw [c,d,List.replicate_succ,List.set_append_right _ _ (ee _),Nat.sub_self,List.set_cons_zero,List.append_assoc];rfl
theorem sW (l:Bs) (k:Nat) (b:UInt8):(byteRow l).setIfInBounds k (J dp b.toNat)=byteRow (l.set k b):=by
 unfold byteRow;rw [List.setIfInBounds_toArray,List.map_set]
theorem jJ (l:Bs):(byteRow l).size=l.length:=by simp [byteRow]
theorem AR (n:Nat) (f:n<=1000000000) (w:ex):(Instr.makeSlice 76 (J U n) (J U n)).run prog w= .ok (di (X ⟨w.heap.size,0,Y⟩) n n) (w.alloc (dy (byteRow (gc n 0)) 5)):=by
 obtain ⟨i,b,d,c,a⟩:=hY (show (prog.info? 5).map (λi=>(i.zero,i.size,i.bytes))=X (X (J dp 0),1,1) by kernel_rfl);rw [run_make w 76 5 i (J dp 0) underlying76 b d U U n n (by omega) (by omega) (by rw [a];omega) (by omega)];have:madeCells (hH dp 0).cells ((n:Int).toNat * i.size)=byteRow (gc n 0):=by
  rw [c];unfold byteRow;apply Array.ext
  · simp [madeCells]
  · intro j h1 e;simp [madeCells,Value.cells,Nat.mod_one]
 rw [this];rfl
structure Ai (g bt rc:Nat) (W:ex):Prop where
 sep:∀b:UInt8,fj b=true->∃q k:Nat,W.cell? ⟨g,b.toNat,none⟩=some (.slice (some ⟨q,0,none⟩) 0 k)
 no:∀b:UInt8,fj b=false->W.cell? ⟨g,b.toNat,none⟩=some (.slice none 0 0)
 all:W.cell? ⟨g,256,none⟩=some (.slice (some ⟨bt,0,none⟩) 2 rc)
 one:W.cell? ⟨bt,0,none⟩=some (S [45])
 two:W.cell? ⟨bt,1,none⟩=some (S [32])
theorem mS.cells {lo g:Nat} {w:ex} (h:mS lo w g):∃c f,∀W,Bw w W->Ai g c f W:=by
 obtain ⟨y,f,k,o,l,p,m,i⟩:=h;obtain ⟨c,u,j,h1,v⟩:=hj i (by omega);injection j with j _ hc
 subst j;refine ⟨c,f,λW a=>?_⟩;have d:=(a.block _ (ae m)).trans m;have n:=ah i (λq t=>a.block q (i.lt q t).2);have x:((gG (di (X ⟨c,0,Y⟩) 2 f) (di (X ⟨k,0,Y⟩) 0 o)).setIfInBounds 32 (di (X ⟨l,0,Y⟩) 0 p)).size=257:=by rw [Array.size_setIfInBounds,oK]
 refine ⟨λb a=>?_,λb a=>?_,?_,?_,?_⟩
 · rcases (by simpa [fj] using a:b=32∨b=45) with rfl|rfl
   · refine ⟨l,p,(aa d _).trans ?_⟩;show ((gG _ _).setIfInBounds 32 _)[32]? =_;rw [Array.getElem?_setIfInBounds_self_of_lt (by rw [oK];omega)]
   · refine ⟨k,o,(aa d _).trans ?_⟩;show ((gG _ _).setIfInBounds 32 _)[45]? =_;rw [e5 (by decide)];unfold gG;rw [Array.getElem?_setIfInBounds_self_of_lt (by rw [ed];omega)]
 · have r:b≠32:=λe=>by subst e;cases a
   have s:b≠45:=λe=>by subst e;cases a
   refine (aa d _).trans ?_;rw [e5 (show (32:Nat)≠b.toNat from λe=>r (UInt8.toNat_inj.1 (show b.toNat=(32:UInt8).toNat from e.symm)))];unfold gG;rw [e5 (show (45:Nat)≠b.toNat from λe=>s (UInt8.toNat_inj.1 (show b.toNat=(45:UInt8).toNat from e.symm)))];exact ku _ _ b.toNat_lt
 · refine (aa d _).trans ?_;rw [e5 (by decide)];unfold gG;rw [e5 (by decide)];exact lu _
 · have:=n.cellAt 0 (by simp);exact this.trans rfl
 · have:=n.cellAt 1 (by simp);exact this.trans rfl
theorem xF (a:Option Addr) (n c q k:Nat) (w:ex):(Builtin.copy_ #[76,76] 3 #[di a n c,di (X ⟨q,0,Y⟩) 0 k]).run prog w= .ok (J U 0) w:=by
 cases hq:prog.info? 5 with
 |none=>exact absurd hq (by decide+kernel)
 |some i=>cases a<;>simp [Builtin.copy_,run_underlying underlying76,Builtin.lenOf,Builtin.firstCells,Go.sizeOf,typeInfo,hq,loadCellsFrom,storeCells,loadCells,goInt]
theorem w64 (x:Int) (h1: -9223372036854775808<=x) (a:x<=9223372036854775807):wrap64 x=x:=IntWalk.wrap64_in x ⟨h1,a⟩
theorem rD (lo g:Nat) (s:Bs) (w:ex) (h:mS lo w g) (hs:s.length<=1000000000):e9 prog 394 #[dx (X ⟨g,0,Y⟩),S s] w λe w'=>e=dk (S (keepL s))/\Bw w w':=by
 obtain ⟨bt,rc,a9⟩:=h.cells;have D:=Z a9;have bO:g<w.heap.size:=by obtain ⟨_,_,_,_,_,_,hG,_⟩:=h;exact ae hG
 obtain ⟨K,R⟩:=Qe (keepL s);obtain ⟨N,hN⟩:=Qe K.length;obtain ⟨m,hm⟩:=Qe (decide (cntL s≠0));have l:=Z R;have E:=Z hN;have HM:=Z hm;have aS:N+cntL s=s.length:=by rw [<- hN, <- R];exact gY s
 have ao:=Z aS;have b9:N<=1000000000:=by omega
 obtain ⟨_,_,b5,t0,t1⟩:=a9 w (em _ w);rw [R];clear h a9 R hN hm aS;go_enter func394,ntmps394;go_upto_if 26 with fail
 go_cut [5,6] (λn y wx=>n=J U N/\y=dn m/\∃k,wx=w.drewN k)
 case first=>
  by_cases hL:(16:Int)<=s.length
  · have hd:decide ((16:Int)<=s.length)=true:=decide_eq_true hL;have a4:Hid (∀(c:UInt8) W,e9 prog 396 #[S s,S [c]] W λe w'=>e=dk (J U (s.count c))/\w'=W):=λc W=>xE s c W;have HA:Hid (∀W,e9 prog 396 #[S s,S [45]] W λe w'=>e=dk (J U (s.count 45))/\w'=W):=λW=>a4 45 W;have M:Hid (∀W,e9 prog 396 #[S s,S [32]] W λe w'=>e=dk (J U (s.count 32))/\w'=W):=λW=>a4 32 W;have a2:=ao.o;have a5:=HM.o;unfold cntL at a2 a5;obtain ⟨q1,j1,b7⟩:=(D w (em _ w)).sep 45 rfl;obtain ⟨q2,j2,b6⟩:=(D w (em _ w)).sep 32 rfl;change w.cell? ⟨g,45,Y⟩=_ at b7;change w.cell? ⟨g,32,Y⟩=_ at b6;generalize s.count 45=A at *;generalize s.count 32=B at *;clear a4;have e0:IntKind.i64.wrap ((A:Int) * -1)= -(A:Int):=by rw [Int.mul_neg_one];exact gq _ (by omega)
    have e1:IntKind.i64.wrap ((s.length:Int)+ -(A:Int))=((N+B:Nat):Int):=(gq _ (by omega)).trans (by omega);have e2:IntKind.i64.wrap ((B:Int) * -1)= -(B:Int):=by rw [Int.mul_neg_one];exact gq _ (by omega)
    have e3:IntKind.i64.wrap (((N+B:Nat):Int)+ -(B:Int))=(N:Int):=(gq _ (by omega)).trans (by omega);have e4:A=0->IntKind.i64.wrap ((s.length:Int)+ -(B:Int))=(N:Int):=λh=>(gq _ (by omega)).trans (by omega);have b1:=Z e4;have L:=Z a2;have a1:=Z a5;clear e4 a2 a5;go_wp2_with fail
    refine g1 3 ?_;rw [fc];by_cases hA:A=0
    · have b8:((A:Int)!=0)=false:=by simp [hA]
      have e4:=b1 hA;have I:=Z hA;clear hA;go_wp2_with (go_at_call 396;((with_reducible refine dz (HA.o _) ?_);rintro e w1 ⟨rfl,rfl⟩))
      rw [fc];by_cases hB:B=0
      · have a3:((B:Int)!=0)=false:=by simp [hB]
        have b:Hid (s.length=N/\false=m):=⟨by have:=L.o;have:=I.o;omega,by rw [<- a1.o,I.o,hB];rfl⟩;clear hB;go_wp2_with (go_at_call 396;((with_reducible refine dz (M.o _) ?_);rintro e w1 ⟨rfl,rfl⟩))
        rw [fc];go_wp2_with fail
        go_meet;exact ⟨by rw [b.o.1],by rw [b.o.2],0,rfl⟩
      · have a3:((B:Int)!=0)=true:=by simp;omega
        have b:Hid (true=m):=by unfold Hid;rw [<- a1.o];simp;omega
        clear hB;go_wp2_with (go_at_call 396;((with_reducible refine dz (M.o _) ?_);rintro e w1 ⟨rfl,rfl⟩))
        go_region;go_wp2_with fail
        rw [fc];go_wp2_with fail
        go_meet;exact ⟨congrArg (hH U) (by have h1:=L.o;have h2:=I.o;rw [w64 (-(B:Int)) (by omega) (by omega),w64 _ (by omega) (by omega)];omega),by rw [b.o],1,rfl⟩
    · have b8:((A:Int)!=0)=true:=by simp;omega
      have b:Hid (true=m):=by unfold Hid;rw [<- a1.o];simp;omega
      have I:=Z hA;clear hA;go_wp2_with (go_at_call 396;((with_reducible refine dz (HA.o _) ?_);rintro e w1 ⟨rfl,rfl⟩))
      go_region;go_wp2_with fail
      rw [fc];by_cases hB:B=0
      · have a3:((B:Int)!=0)=false:=by simp [hB]
        have a0:=Z hB;clear hB;go_wp2_with (go_at_call 396;((with_reducible refine dz (M.o _) ?_);rintro e w1 ⟨rfl,rfl⟩))
        rw [fc];go_wp2_with fail
        go_meet;exact ⟨congrArg (hH U) (by have h1:=L.o;have h2:=a0.o;rw [w64 (-(A:Int)) (by omega) (by omega),w64 _ (by omega) (by omega)];omega),by rw [b.o],1,rfl⟩
      · have a3:((B:Int)!=0)=true:=by simp;omega
        clear hB;go_wp2_with (go_at_call 396;((with_reducible refine dz (M.o _) ?_);rintro e w1 ⟨rfl,rfl⟩))
        go_region;go_wp2_with fail
        rw [fc];go_wp2_with fail
        go_meet;exact ⟨congrArg (hH U) (by have h1:=L.o;rw [w64 (-(A:Int)) (by omega) (by omega),w64 (-(B:Int)) (by omega) (by omega),w64 ((s.length:Int)+ -(A:Int)) (by omega) (by omega),w64 _ (by omega) (by omega)];omega),by rw [b.o],2,rfl⟩
  · have hd:decide ((16:Int)<=s.length)=false:=decide_eq_false hL;have bp:=rO;have bs:=nW;go_wp2_with fail
    go_loopw [5,6,10,11] (λn y i _b wr=>wr=w/\∃k:Nat,k<=s.length/\i=J U k/\n=J U ((s.length - cntL (s.take k):Nat):Int)/\y=dn (decide (cntL (s.take k)≠0))) (λ_ _ i _ _=>s.length - (intOf i).toNat)
    case atStart=>exact ⟨rfl,0,fz _,rfl,by simp [cntL],by simp [cntL]⟩
    case round=>
     obtain ⟨rfl,k,hk,rfl,rfl,rfl⟩:=hrel;by_cases hlt:k<s.length
     · have bc:(k:Int)<s.length:=by omega
       obtain ⟨x,G⟩:=Qe (s[k]);have f:=zS hlt;rw [G] at f;have ac:cntL (s.take k)<=k:=by have:=gY (s.take k);rw [eQ] at this;omega
       obtain ⟨p,F⟩:=Qe (cntL (s.take k));rw [F] at f ac ⊢;have bw:=nD x;have bA:=yn x;obtain ⟨P,o⟩:=Qe (s.length - p);obtain ⟨z,t⟩:=Qe (decide (p≠0));have HP:=Z o;have HZ:=Z t;rw [o,t];cases hsx:fj x
       · have a8:=(D wr (em _ wr)).no x hsx;rw [hsx] at f;have b:Hid (cntL (s.take (k+1))=p):=f;clear f F hsx o t;go_wp2_with fail
         go_roundw
         case rel=>exact ⟨trivial,k+1,by omega,by go_num,by rw [b.o,HP.o],by rw [b.o,HZ.o]⟩
         case measure=>simp [intOf];omega
       · obtain ⟨q,kq,a8⟩:=(D wr (em _ wr)).sep x hsx;rw [hsx] at f;have b:Hid (cntL (s.take (k+1))=p+1):=f;have hw:IntKind.i64.wrap ((P:Int)+ -1)=((P - 1:Nat):Int):=(gq _ (by omega)).trans (by omega);clear f F hsx o t;go_wp2_with fail
         go_roundw
         case rel=>exact ⟨trivial,k+1,by omega,by go_num,by rw [b.o, <- HP.o,Nat.sub_sub],by rw [b.o];rfl⟩
         case measure=>simp [intOf];omega
     · have aC:s.take k=s:=ft (by omega);rw [aC];have b:Hid (s.length - cntL s=N/\decide (cntL s≠0)=m):=⟨by have:=ao.o;omega,HM.o⟩;obtain ⟨p,F⟩:=Qe (cntL s);rw [F] at b ⊢;obtain ⟨P,o⟩:=Qe (s.length - p);obtain ⟨z,t⟩:=Qe (decide (p≠0));rw [o,t] at b ⊢;clear F o t aC;go_wp2_with fail
       go_meet;exact ⟨by rw [b.o.1],by rw [b.o.2],0,rfl⟩
 case rest=>
  obtain ⟨rfl,rfl,nq,rfl⟩:=hcut;have a7:Bw w (w.drewN nq):=bo.below (w:=w) (w':=w.drewN nq) ⟨nq, #[],by rw [Sort.grow_empty]⟩;obtain ⟨d,av⟩:=Qe (w.drewN nq);rw [av] at a7 ⊢;have O:=Z a7;clear a7 av b5 t0 t1;cases m
  · have b3:Hid (K=s):=by unfold Hid;rw [<- l.o];exact zg (by have:=HM.o;simpa using this)
    go_wp2_with fail
    go_ret;exact ⟨(by rw [b3.o];rfl),O.o⟩
  · have bk:=AR N b9 d;have c3:(0:Int)<=N:=by omega
    obtain ⟨w1,T⟩:=Qe (d.alloc (dy (byteRow (gc N 0)) 5));have ax:Bw w w1:=by rw [<- T];exact O.o.alloc O.o.size _
    have au:w1.heap[d.heap.size]? =X (dy (byteRow (gc N 0)) 5 (0,0)):=by rw [<- T];exact er d _
    rw [T] at bk;have a0:=Z ax;have aT:=Z au;clear ax au T;go_wp2_with fail
    go_loopw [13,14,15] (λj i _b wr=>∃k:Nat,k<=s.length/\i=J U k/\j=J U (keepL (s.take k)).length/\Hid (Bw w wr)/\Hid (wr.heap[d.heap.size]? =X (dy (byteRow (ji s k)) 5 (0,0)))) (λ_ i _ _=>s.length - (intOf i).toNat)
    case atStart=>exact ⟨0,fz _,rfl,by simp [keepL],a0,by unfold Hid;rw [xS,l.o,E.o];exact aT.o⟩
    case round=>
     obtain ⟨k,hk,rfl,rfl,C,v⟩:=hrel;by_cases hlt:k<s.length
     · have bc:(k:Int)<s.length:=by omega
       have ad:(keepL (s.take k)).length<=N:=by rw [<- E.o, <- l.o];exact pX s k
       obtain ⟨x,G⟩:=Qe (s[k]);have bw:=nD x;have bA:=yn x;have bp:=rO;have bs:=nW;cases hsx:fj x
       · have a8:=(D wr C.o).no x hsx;obtain ⟨H,u,V⟩:=z8 hlt (by rw [G];exact hsx);rw [l.o,E.o] at V;obtain ⟨j,r⟩:=Qe ((keepL (s.take k)).length);rw [r] at H u V ad ⊢;have ac:wr.cell? ⟨d.heap.size,j,Y⟩=X ((byteRow (ji s k))[j]'(by rw [jJ,sX,l.o,E.o];exact V)):=(aa v.o j).trans (Array.getElem?_eq_getElem _);have bD:=ab v.o j;have a6:=ap v.o j (J dp x.toNat);rw [sW, <- G, <- H,G] at a6;have b4:=Z a6;have Q:=Z u;have b0:Hid (w.heap.size<=d.heap.size):=O.size;generalize ((byteRow (ji s k))[j]'(by rw [jJ,sX,l.o,E.o];exact V))=old at ac;have c4:(j:Int)<N:=by omega
         clear H u r hsx a6;go_wp2_with fail
         go_roundw
         case rel=>exact ⟨k+1,by omega,by go_num,by rw [Q.o];go_num,C.o.setCell b0.o _,b4⟩
         case measure=>simp [intOf];omega
       · obtain ⟨q,kq,a8⟩:=(D wr C.o).sep x hsx;obtain ⟨H,u⟩:=xT hlt (by rw [G];exact hsx);obtain ⟨j,r⟩:=Qe ((keepL (s.take k)).length);rw [r] at u ad ⊢;have al:=Z H;have Q:=Z u;have bB:=λa n c=>xF a n c q kq wr.drew;clear H u r hsx;have bT:(0:Int)<=j:=by omega
         rcases Nat.lt_or_eq_of_le ad with bY|rfl
         · have c0:(j:Int)<N:=by omega
           have c1:¬(N=j):=by omega
           have c2:¬(j=N):=by omega
           go_wp2_with fail
           go_region;go_wp2_with fail
           go_roundw
           case rel=>exact ⟨k+1,by omega,by go_num,by rw [Q.o],C.o.drew,by unfold Hid;rw [al.o];exact v.o⟩
           case measure=>simp [intOf];omega
         · go_wp2_with fail
           go_region;go_wp2_with fail
           go_roundw
           case rel=>exact ⟨k+1,by omega,by go_num,by rw [Q.o],C.o.drew,by unfold Hid;rw [al.o];exact v.o⟩
           case measure=>simp [intOf];omega
     · have ay:k=s.length:=by omega
       have b2:Hid (wr.heap[d.heap.size]? =X (dy (byteRow K) 5 (0,0))):=by have:=v.o;rw [ay,Aa,l.o] at this;exact this
       have bb:=run_convert_bytes_back (P:=prog) wr 76 9 5 ⟨d.heap.size,0,Y⟩ N K underlying76 underlying5 underlying9 (λj r=>by
        have e:(⟨d.heap.size,0,Y⟩:Addr).add j=⟨d.heap.size,j,Y⟩:=by simp only [Addr.add];split<;>simp_all
        rw [e,aa b2.o j];unfold byteRow;simp [r])
       rw [E.o] at bb;clear ay;go_wp2_with fail
       go_ret;exact ⟨rfl,C.o⟩
theorem uh (p:Option Addr) (W:ex):(method 567 404 (.pointer p) "Replace").run prog W= .ok (394, .pointer p) W:=by kernel_rfl
theorem rE (R on r:Nat) (cs:Array fs) (s:Bs) (w:ex) (d:w.heap[R]? =X (dy #[J .u32 0,J ds 0,J .u32 0, .nilIface,di (X ⟨on,0,Y⟩) 4 r] 355 (0,0))) (h:w.heap[on]? =X (dy (onC cs) 9 (0,0))) (G:s.length<=1000000000):
 e9 prog 238 #[dx (X ⟨R,0,Y⟩),S s] w λe w'=>e=dk (S (keepL s))/\ag (λq=>q=R) w (λq=>q=R) w':=by
 have A:=ae d;have D:R≠on:=df d h (by decide);have u:=Z (CA R _ _ _ _ (yR R on r w.heap.size cs A) w (λw' l=>⟨l.size,(l.block on D.symm).trans h⟩) d);clear d h;go_enter func238,ntmps238;go_upto_region 2 with (go_at_call 288;refine dz u.o ?_;rintro e b ⟨rfl,E⟩)
 obtain ⟨M,N,m,⟨p,n⟩,f,j⟩:=E;have k:ag (λq=>q=R) w (λq=>q=R) b:=((ag.of_only (F:=λq=>q=R) m rfl).trans p).trans (ag.of_only (F:=λq=>q=R) f rfl);have o:mS w.heap.size b (w.heap.size+1):=by obtain ⟨a,c,x,H,y,I,z,i⟩:=n;exact ⟨a,c,x,H,y,I,(f.block _ (by omega)).trans z,ah i (λg C=>f.block g (λe=>by have:=(i.lt g C).1;omega))⟩
 have K:b.cell? ⟨R,3,Y⟩=X (.iface 404 (dx (X ⟨w.heap.size+1,0,Y⟩))):=(aa j 3).trans rfl;have v:=Z k;have t:=Z (rD w.heap.size (w.heap.size+1) s b o G);have L:=uh (X ⟨w.heap.size+1,0,Y⟩) b;clear m p n f j k o;go_wp2_with (go_at_call 394;refine dz t.o ?_;rintro e O ⟨rfl,B⟩)
 go_ret;exact ⟨rfl,v.trans (ag.of_below B)⟩
theorem fO {lo a:Nat} {w w':ex} {v:fs} {b:List af} (h:ai lo a w v b) (e:a<=w.heap.size) (c:Bw w w'):ai lo a w' v b:=h.kept λk _ d=>c.block k (by omega)
theorem o7 {lo a:Nat} {w w':ex} {v:fs} {b:List cB} (h:aD lo a w v b) (e:a<=w.heap.size) (c:Bw w w'):aD lo a w' v b:=h.kept λk _ d=>c.block k (by omega)
def zeroF:af:=⟨[],[],[],[]⟩
def mU (a:Nat) (w':ex) (f:Option af) (v:fs):Prop:=∃d,v= .agg #[S (f.getD zeroF).tag,S (f.getD zeroF).ind,S (f.getD zeroF).data,d]/\aD 0 a w' d (f.getD zeroF).subs
theorem mU.up {w w':ex} {f:Option af} {v:fs} (h:mU w.heap.size w f v) (c:Bw w w'):mU w.heap.size w' f v:=by
 obtain ⟨d,h1,a⟩:=h;exact ⟨d,h1,a.kept λk _ b=>c.block k b⟩
theorem lM {f:af} (h:(fieldBytes f).length<=1000000) {q:cB} (a:q∈f.subs):q.text.length<=1000000:=by
 have:∀l:List cB,q∈l->q.text.length<=(l.flatMap aU).length:=by
  intro l;induction l with
  |nil=>intro h;cases h
  |cons s l ih=>
   intro h;rw [List.flatMap_cons,eg];rcases List.mem_cons.1 h with rfl|h
   · simp only [aU,es];omega
   · have:=ih h;omega
 have:=this _ a;simp only [fieldBytes,eg] at h;omega
theorem JNB {w a b:ex} (c:Bw a b) (d:a.heap.size=w.heap.size+3):h7 w.heap.size a b:=c.mono (by omega)
theorem sH (a:Bs) (c:UInt8):a.contains c=decide (0<=hu a c):=Lib.contains_iff_indexByte a c
theorem fA {fn:Func} {p u:Tmp} {c:TypeId} (h:fn.results= #[.tmp u, .cell p c]) (b:Array fs) (P:Program) (w:ex):
 (results fn b).run P w=
  ((asAddr (b.getD p undef)).run P w).andThen λa d=>((loadVar c a).run P d).andThen λv e=> .ok (.tuple #[b.getD u undef,v]) e:=by
 simp only [results,h];simp [Sem.run_bind,Result.andThen]
theorem qX (k l:UInt8) (x:fs) (c:List af) (y f:Bs) (w:ex) (hs:ai 0 w.heap.size w x c) (al:bR c):
 e9 prog 184 #[.agg #[J dp k.toNat,J dp l.toNat,x],S y,S f] w λe w'=>(∃v,e=dk (.tuple #[S (textF (firstF c y) f),v])/\mU w.heap.size w' (firstF c y) v)/\Bw w w':=by
 obtain ⟨m,G⟩:=Qe (((w.alloc (dy #[J dp k.toNat,J dp l.toNat,x] 62)).alloc (dy #[S y] 9)).alloc (dy #[S [],S [],S [],di Y 0 0] 123));have bw:m.heap.size=w.heap.size+3:=by rw [<- G];simp
 have Q:Bw w m:=by rw [<- G];exact (((em _ w).alloc (ee _) _).alloc (by simp) _).alloc (by simp;omega) _
 have ay:ai 0 m.heap.size m x c:=(fO hs (ee _) Q).mono (ee _) (by omega);have hA:m.heap[w.heap.size]? =X (dy #[J dp k.toNat,J dp l.toNat,x] 62 (0,0)):=by rw [<- G,e7 _ _ _ (by simp;omega),e7 _ _ _ (by simp)];exact er w _
 have hB:m.heap[w.heap.size+1]? =X (dy #[S y] 9 (0,0)):=by rw [<- G,e7 _ _ _ (by simp)];have:=er (w.alloc (dy #[J dp k.toNat,J dp l.toNat,x] 62)) (dy #[S y] 9);rwa [fl] at this
 have hC:m.heap[w.heap.size+1+1]? =X (dy #[S [],S [],S [],di Y 0 0] 123 (0,0)):=by rw [<- G];have:=er ((w.alloc (dy #[J dp k.toNat,J dp l.toNat,x] 62)).alloc (dy #[S y] 9)) (dy #[S [],S [],S [],di Y 0 0] 123);rwa [fl,fl] at this
 have a4:=Z (nn (w.heap.size+1) y x c m ay al.1 (by rw [aa hB];rfl));have a2:m.cell? ⟨w.heap.size,2,Y⟩=X x:=by rw [aa hA];rfl
 have bs:=hs;have HF:=Z hs;have HA:=Z hA;have HC:=Z hC;have N:=Z Q;have HW:=Z G;clear hA hB hC ay hs Q;rcases sf y c with ⟨n,a1,hn,a0⟩|⟨a1,a0⟩
 · rw [a1,show ixI (X n)=n from rfl] at a4;rw [a0];obtain ⟨b,g,a5,d,hv,_,R,c0,c1,c2,c3,a7⟩:=bs.field n hn;subst hv;have ac:=g0 hn;have HG:Hid (mU w.heap.size w (X c[n]) (.agg #[S c[n].tag,S c[n].ind,S c[n].data,d])):=⟨d,rfl,a7⟩;have bt:c[n].subs.length<=1000000:=fr (cM _) (al.2 _ ac);have HJ:Hid ((dI (bI c[n].subs f)).length<=140737488355328):=by have h1:=lI c[n].subs f 1000000 (λq hq=>lM (al.2 _ ac) hq);have:c[n].subs.length * (1000000+1)<=1000000 * 1000001:=hf bt (ee _);unfold Hid;omega
   obtain ⟨A,B,rfl,_⟩:=id a7;have b7:=Z a7;have b9:Hid (textF (X c[n]) f=textS c[n].subs f):=rfl;generalize c[n].subs=ss at *;generalize textF (X c[n]) f=RES at *;generalize c[n].tag=T at *;generalize c[n].ind=I at *;generalize c[n].data=D at *;generalize c[n]=FF at *;have bT:(n:Int)<(c.length:Int):=by omega
   clear a1 a0 ac a7;obtain ⟨i0,hi,b0,b1,ao⟩:=hY i9;have HI:=Z hi;have b3:=Z b0;have b4:=Z b1;have b5:=Z ao;clear hi b0 b1 ao;have bD:=HA.o;go_enter func184,ntmps184;go_wp2_with (go_at_call 241;((with_reducible refine dz a4.o ?_);rintro e i ⟨rfl,u⟩;have a3:i.cell? ⟨w.heap.size,2,Y⟩=X (di (X ⟨b,g,Y⟩) c.length a5):=(((aE u).1 w.heap.size 2 (by omega)).trans a2);have d3:i.cell? ⟨b,g+n * 4+3,Y⟩=X (di A ss.length B):=((aE u).1 b _ (by omega)).trans (((aE N.o).1 b _ R).trans c3)))
   have b8:Hid (aD 0 w.heap.size i (hI A ss.length B) ss):=o7 (o7 b7.o (ee _) N.o) (by omega) u;have ao:=u.size;have b6:=Z u;clear d3;go_loopw [9,26] (λv j wr=>∃(q:Nat),q<=ss.length/\j=J U q/\Hid (wr.ownsRow (w.heap.size+3) 9 1 v (bI (ss.take q) f).length ((bI (ss.take q) f).map λs=>S s))/\h7 (w.heap.size+3) i wr/\w.heap.size+3<=wr.heap.size) (λ_ j _=>ss.length - (intOf j).toNat)
   case atStart=>exact ⟨0,fz _,rfl,hP _ _ _ _,em _ _,by omega⟩
   case round=>
    obtain ⟨q,hq,rfl,O,H,hz⟩:=hrel;by_cases hlt:q<ss.length
    · have aT:aD 0 w.heap.size wr (hI A ss.length B) ss:=b8.o.kept (aX H (by omega));obtain ⟨b',bY,bB,hv,_,bO,e0,e1⟩:=aT.sub q hlt;cases hv;have HN:=Z (lH ss f q hlt);have bb:(bI (ss.take q) f).length<=1000000:=by have:=il (ss.take q) f;rw [eQ] at this;omega
      have av:Hid (∀W,e9 prog 246 #[S f,J dp ss[q].code.toNat] W λe w'=>e=dk (J U (hu f ss[q].code))/\W=w'):=λW=>(strings_IndexByte ⟨f.toArray⟩ ss[q].code.toNat W).mono λe w' h=>⟨by rw [h.1];simp,h.2.symm⟩;have M:=sH f ss[q].code;clear aT;generalize ss[q].code=C at *;generalize ss[q].text=TT at *;generalize hu f C=ixc at *;generalize f.contains C=cc at *;generalize bI (ss.take q) f=L at *;have V:b'<wr.heap.size:=by omega
      cases cc
      · rw [if_neg (by simp),g5] at HN;have bp:¬(0<=ixc):=λh=>by rw [decide_eq_true h] at M;cases M
        clear M;go_wp2_with (go_at_call 246;((with_reducible refine dz (av.o _) ?_);rintro e w3 ⟨rfl,rfl⟩))
        go_roundw
        case rel=>exact ⟨q+1,by omega,by go_num,by unfold Hid;rw [HN.o];exact O.o.alloc _,H.alloc (by omega) _,by simp;omega⟩
        case measure=>simp [intOf];omega
      · rw [if_pos rfl] at HN;have bp:0<=ixc:=by
         by_cases h:0<=ixc
         · exact h
         · rw [decide_eq_false h] at M;cases M
        clear M
        go_wp2_with (first
         |(go_at_call 246;((with_reducible refine dz (av.o _) ?_);rintro e w3 ⟨rfl,rfl⟩))
         |(at_builtin;(refine g9 _ rfl _ _ 81 rfl (w.heap.size+3) 9 i0 (.string ⟨#[]⟩) 1 16 underlying81 HI.o b3.o b4.o b5.o rfl ho u9 L.length (L.map λs=>S s) ?_ ?_ ⟨wr.heap.size+1,0,Y⟩ 1 1 [S TT] ?_ ?_ ?_ ?_ ?_ ?_ ?_ ?_);(focus rfl);(focus exact ((O.o.alloc _).alloc _));(focus rfl);(focus rfl);(focus exact iA _ _ _ _);(focus simp [gQ]);(focus (unfold maxLen;omega));(focus omega);(focus (simp;omega));intro v' w1 aS a9 _ _;have Q:h7 (w.heap.size+3) i w1:=((H.alloc (by omega) _).alloc (by simp;omega) _).grown a9 (by simp;omega) (λj ej=>(O.o.lt j ej).1);have b2:=a9.size;have HO:=Z aS;clear aS a9))
        go_roundw
        case rel=>exact ⟨q+1,by omega,by go_num,by unfold Hid;rw [HN.o,eg,gi];exact HO.o,Q,by simp at b2;omega⟩
        case measure=>simp [intOf];omega
    · have HT:Hid (bI (ss.take q) f=bI ss f):=by unfold Hid;rw [ft (by omega)]
      rw [HT.o] at O;have bb:=il ss f;have HF:=Z (mi (w:=wr.drew) (lU O.o) (by omega) HJ.o);have b2:=hz;have r:Bw w wr:=N.o.trans ((JNB b6.o bw).trans (H.mono (by omega)));have au:=Z r;have a8:∀W,Bw wr W->(W.cell? ⟨w.heap.size,2,Y⟩=X (di (X ⟨b,g,Y⟩) c.length a5)/\W.cell? ⟨b,g+n * 4,Y⟩=X (S T)/\W.cell? ⟨b,g+n * 4+1,Y⟩=X (S I)/\W.cell? ⟨b,g+n * 4+2,Y⟩=X (S D)/\W.cell? ⟨b,g+n * 4+3,Y⟩=X (di A ss.length B)):=λW P=>by
       have V:b<wr.heap.size:=by omega
       have e2:wr.cell? ⟨w.heap.size,2,Y⟩=X (di (X ⟨b,g,Y⟩) c.length a5):=by rw [World.cell?_of_block (w:=i) (a:=⟨w.heap.size,2,Y⟩) (H.block _ (by show w.heap.size<_;omega))];exact a3
       refine ⟨((aE P).1 _ _ (by omega)).trans e2,?_,?_,?_,?_⟩
       · exact ((aE P).1 _ _ V).trans (((aE r).1 _ _ R).trans c0)
       · exact ((aE P).1 _ _ V).trans (((aE r).1 _ _ R).trans c1)
       · exact ((aE P).1 _ _ V).trans (((aE r).1 _ _ R).trans c2)
       · exact ((aE P).1 _ _ V).trans (((aE r).1 _ _ R).trans c3)
      have F:=a8 wr.drew ((em _ wr).drew);have ax:=Z a8;clear a8 r;go_wp2_with fail
      refine wT (λW=>(W.cell? ⟨w.heap.size,2,Y⟩=X (di (X ⟨b,g,Y⟩) c.length a5)/\W.cell? ⟨b,g+n * 4,Y⟩=X (S T)/\W.cell? ⟨b,g+n * 4+1,Y⟩=X (S I)/\W.cell? ⟨b,g+n * 4+2,Y⟩=X (S D)/\W.cell? ⟨b,g+n * 4+3,Y⟩=X (di A ss.length B))) 8 ?_;refine tk 0 ?_ rfl F ?_ ?_;rotate_left;intro w' h;go_simp;rfl;refine tk 2 ?_ rfl F ?_ ?_;rotate_left;intro w' h;go_simp;rfl;refine tk 3 ?_ rfl F ?_ ?_;rotate_left;rintro w' ⟨h0,h1,h2,h3,h4⟩;go_simp;rfl;refine tk 4 ?_ rfl F ?_ ?_;rotate_left;intro w' h;go_simp;rfl;refine tk 5 ?_ rfl F ?_ ?_;rotate_left;intro w' h;go_simp;rfl;refine tk 6 ?_ rfl F ?_ ?_;rotate_left;rintro w' ⟨h0,h1,h2,h3,h4⟩;go_simp;rfl;refine Dp 1 λK z=>?_;go_simp;go_at_call 244;refine HF.mono ?_;rintro e E ⟨rfl,bk⟩;have a6:Bw wr E:=(em _ wr).drew.trans bk;refine z _ _ (λ_=>ax _ a6) ?_;clear z K;have t:E.heap[w.heap.size+1+1]? =X (dy #[S [],S [],S [],di Y 0 0] 123 (0,0)):=(a6.block _ (by omega)).trans ((H.block _ (by omega)).trans ((u.block _ (by omega)).trans HC.o));have z0:=ab t 0;have z1:=ab t 1;have z2:=ab t 2;have z3:=ab t 3;have y0:E.cell? ⟨w.heap.size+1+1,0,Y⟩=X (S []):=(by rw [aa t];rfl);have y1:E.cell? ⟨w.heap.size+1+1,1,Y⟩=X (S []):=(by rw [aa t];rfl);have y2:E.cell? ⟨w.heap.size+1+1,2,Y⟩=X (S []):=(by rw [aa t];rfl);have y3:E.cell? ⟨w.heap.size+1+1,3,Y⟩=X (di Y 0 0):=(by rw [aa t];rfl);have bc:=ax _ a6;clear t;refine Ds 7 bc ?_;refine Dl 8 ?_;go_wp2;refine g2 (v:= .tuple #[S (dI (bI ss f)), .agg #[S T,S I,S D,di A ss.length B]]) (by rw [fA rfl];go_simp) rfl ?_;have r:Bw w E:=au.trans (a6.mono au.size);have aC:=(((r.setCell (p:=⟨w.heap.size+1+1,0,Y⟩) (by simp;omega) (S T)).setCell (p:=⟨w.heap.size+1+1,1,Y⟩) (by simp;omega) (S I)).setCell (p:=⟨w.heap.size+1+1,2,Y⟩) (by simp;omega) (S D)).setCell (p:=⟨w.heap.size+1+1,3,Y⟩) (by simp;omega) (di A ss.length B);exact ⟨⟨_,by rw [b9.o];rfl,mU.up HG.o aC⟩,aC⟩
 · rw [a1,show ixI Y= -1 from rfl] at a4;rw [a0];clear a1 a0;go_enter func184,ntmps184;go_wp2_with (go_at_call 241;((with_reducible refine dz a4.o ?_);rintro e i ⟨rfl,u⟩;have o:i.heap[w.heap.size+1+1]? =X (dy #[S [],S [],S [],di Y 0 0] 123 (0,0)):=(u.block _ (by omega)).trans HC.o;have z0:=ab o 0;have z1:=ab o 1;have z2:=ab o 2;have z3:=ab o 3;have y0:i.cell? ⟨w.heap.size+1+1,0,Y⟩=X (S []):=(by rw [aa o];rfl);have y1:i.cell? ⟨w.heap.size+1+1,1,Y⟩=X (S []):=(by rw [aa o];rfl);have y2:i.cell? ⟨w.heap.size+1+1,2,Y⟩=X (S []):=(by rw [aa o];rfl);have y3:i.cell? ⟨w.heap.size+1+1,3,Y⟩=X (di Y 0 0):=(by rw [aa o];rfl);have bA:=Z o;clear o))
   refine g2 (v:= .tuple #[S [], .agg #[S [],S [],S [],di Y 0 0]]) (by rw [fA rfl];go_simp) rfl ?_;have r:Bw w i:=N.trans (u.mono N.size);exact ⟨⟨_,rfl,di Y 0 0,rfl,_,_,rfl,λh=>absurd rfl h⟩,(((r.setCell (p:=⟨w.heap.size+1+1,0,Y⟩) (by simp;omega) _).setCell (p:=⟨w.heap.size+1+1,1,Y⟩) (by simp;omega) _).setCell (p:=⟨w.heap.size+1+1,2,Y⟩) (by simp;omega) _).setCell (p:=⟨w.heap.size+1+1,3,Y⟩) (by simp;omega) _⟩
def skI (a:Bs):Nat:=match a with
 |_::c::_=>if digitB c then c.toNat - 48 else 0
 |_=>0
theorem vm (a c:UInt8) (r:Bs):skI (a::c::r)=if digitB c then c.toNat - 48 else 0:=rfl
theorem yy (f:Option af):yz f=skI (f.getD zeroF).ind:=by
 cases f with
 |none=>rfl
 |some f=> obtain ⟨t,i,d,s⟩:=f;rcases i with _|⟨a,_|⟨c,r⟩⟩<;>rfl
theorem nJ (f:af) (a:Bs):(textS f.subs a).length<=(fieldBytes f).length:=by
 have h1:(textS f.subs a).length<=((bI f.subs a).map λs=>s.length+1).sum:=iw _;have b:∀l:List cB,((bI l a).map λs=>s.length+1).sum<=(l.flatMap aU).length:=by
  intro l;induction l with
  |nil=>simp [bI]
  |cons s l ih=>
   rw [List.flatMap_cons,eg];unfold bI at *;rw [fx];have e:(aU s).length=s.text.length+2:=by simp [aU]
   split
   · simp only [gp,gz];omega
   · omega
 have c:=b f.subs;simp only [fieldBytes,eg] at *;omega
theorem ix {a:List af} {b:Bs} {f:af} (h:firstF a b=X f):f∈a:=List.mem_of_find?_eq_some h
theorem eN {a:List af} (d:bR a) (c b:Bs):(textF (firstF a c) b).length<=1000000:=by
 cases h:firstF a c with
 |none=>simp [textF]
 |some f=>exact fr (nJ f b) (d.2 f (ix h))
theorem nI (k l:UInt8) (x:fs) (b:List af) (w:ex) (L:ai 0 w.heap.size w x b) (H:bR b):
 e9 prog 178 #[.agg #[J dp k.toNat,J dp l.toNat,x]] w λe w'=>e=dk (S (aQ b))/\Bw w w':=by
 have V:(w.alloc (dy #[J dp k.toNat,J dp l.toNat,x] 62)).heap.size=w.heap.size+1:=by simp
 have E:Bw w (w.alloc (dy #[J dp k.toNat,J dp l.toNat,x] 62)):=(em _ w).alloc (ee _) _;have o:=Z (qX k l x b [50,52,53] [97,98] (w.alloc (dy #[J dp k.toNat,J dp l.toNat,x] 62)) ((fO L (ee _) E).mono (ee _) (by omega)) H);have M:=Z (eN H [50,52,53] [97,98]);have h:Hid (aQ b=gA (textF (firstF b [50,52,53]) [97,98]) (skI ((firstF b [50,52,53]).getD zeroF).ind)):=by unfold Hid aQ;rw [yy];rfl
 have t:=Z E;clear L H E;generalize textF (firstF b [50,52,53]) [97,98]=T at *;unfold mU at o;generalize (firstF b [50,52,53]).getD zeroF=g at *;obtain ⟨D,B,A,C⟩:=g;change Hid (aQ b=gA T (skI B)) at h;change Hid (e9 prog 184 _ _ λe w'=>(∃v,e=dk (.tuple #[S T,v])/\∃d,v= .agg #[S D,S B,S A,d]/\aD 0 _ w' d C)/\h7 _ _ w') at o;have y:Hid (∀(q:Nat) (W:ex),q<=1000->e9 prog 231 #[S T,J U q] W λe w'=>e=dk (S (gA T q))/\Bw W w'):=λq W N=>yw T q M.o N W;rcases B with _|⟨a,_|⟨c,r⟩⟩
 · change Hid (aQ b=gA T 0) at h;go_enter func178,ntmps178
   go_wp2_with (first
    |(go_at_call 184;((with_reducible refine dz o.o ?_);rintro e i ⟨⟨v,rfl,_,rfl,p,s,rfl,_⟩,j⟩))
    |(go_at_call 231;((with_reducible refine dz (y.o 0 _ (by omega)) ?_);rintro e I ⟨rfl,m⟩)))
   go_ret;have f:Bw w i:=t.o.trans (j.mono (by simp));exact ⟨by rw [h.o];rfl,(f.alloc f.size _).trans (m.mono (by have:=f.size;simp;omega))⟩
 · change Hid (aQ b=gA T 0) at h;go_enter func178,ntmps178
   go_wp2_with (first
    |(go_at_call 184;((with_reducible refine dz o.o ?_);rintro e i ⟨⟨v,rfl,_,rfl,p,s,rfl,_⟩,j⟩))
    |(go_at_call 231;((with_reducible refine dz (y.o 0 _ (by omega)) ?_);rintro e I ⟨rfl,m⟩)))
   go_ret;have f:Bw w i:=t.o.trans (j.mono (by simp));exact ⟨by rw [h.o];rfl,(f.alloc f.size _).trans (m.mono (by have:=f.size;simp;omega))⟩
 · have u:Hid (∀W,e9 prog 230 #[S [c]] W λe w'=>e=dk (dn (digitB c))/\Bw W w'):=λW=>by have:=dP [c] W (by simp);rwa [show [c].all digitB=digitB c by simp] at this
   have R:(1:Int)<((a::c::r).length:Int):=by simp;omega
   by_cases hd:digitB c=true
   · have z:Hid (aQ b=gA T (c.toNat - 48)):=by unfold Hid;rw [h.o];rw [vm,if_pos hd]
     rw [hd] at u;obtain ⟨h1,O⟩:=eb hd;have P:((c.toNat:Int) - 48)=((c.toNat - 48:Nat):Int):=by omega
     have Q:c.toNat - 48<=9:=by omega
     clear h hd;generalize c.toNat - 48=q at *;go_enter func178,ntmps178
     go_wp2_with (first
      |(go_at_call 184;((with_reducible refine dz o.o ?_);rintro e i ⟨⟨v,rfl,_,rfl,p,s,rfl,_⟩,j⟩))
      |(go_at_call 230;((with_reducible refine dz (u.o _) ?_);rintro e K ⟨rfl,n⟩;have c1:K.cell? ⟨i.heap.size,1,Y⟩=X (S (a::c::r)):=((aE n).1 _ _ (by simp)).trans (by rw [hF];rfl)))
      |(go_at_call 231;((with_reducible refine dz (y.o q _ (by omega)) ?_);rintro e I ⟨rfl,m⟩)))
     go_ret;have f:Bw w i:=t.o.trans (j.mono (by simp));have G:=f.size;have F:=f.alloc G (dy #[S D,S (a::c::r),S A,di p C.length s] 123);exact ⟨by rw [z.o];rfl,(F.trans (n.mono (by simp;omega))).trans (m.mono (by have:=n.size;simp at this;omega))⟩
   · have z:Hid (aQ b=gA T 0):=by unfold Hid;rw [h.o];rw [vm,if_neg hd]
     rw [show digitB c=false by simpa using hd] at u;clear h hd;go_enter func178,ntmps178
     go_wp2_with (first
      |(go_at_call 184;((with_reducible refine dz o.o ?_);rintro e i ⟨⟨v,rfl,_,rfl,p,s,rfl,_⟩,j⟩))
      |(go_at_call 230;((with_reducible refine dz (u.o _) ?_);rintro e K ⟨rfl,n⟩;have c1:K.cell? ⟨i.heap.size,1,Y⟩=X (S (a::c::r)):=((aE n).1 _ _ (by simp)).trans (by rw [hF];rfl)))
      |(go_at_call 231;((with_reducible refine dz (y.o 0 _ (by omega)) ?_);rintro e I ⟨rfl,m⟩)))
     go_ret;have f:Bw w i:=t.o.trans (j.mono (by simp));have G:=f.size;have F:=f.alloc G (dy #[S D,S (a::c::r),S A,di p C.length s] 123);exact ⟨by rw [z.o];rfl,(F.trans (n.mono (by simp;omega))).trans (m.mono (by have:=n.size;simp at this;omega))⟩
theorem fB {fn:Func} {p u:Tmp} {c:TypeId} (h:fn.results= #[.cell p c, .tmp u]) (b:Array fs) (P:Program) (w:ex):
 (results fn b).run P w=
  ((asAddr (b.getD p undef)).run P w).andThen λa d=>((loadVar c a).run P d).andThen λv e=> .ok (.tuple #[v,b.getD u undef]) e:=by
 simp only [results,h];simp [Sem.run_bind,Result.andThen]
theorem oy (k l:UInt8) (x:fs) (c:List af) (j:Bs) (w:ex) (E:ai 0 w.heap.size w x c) (W:c.length<=1000000):
 e9 prog 181 #[.agg #[J dp k.toNat,J dp l.toNat,x],S j] w λe w'=>(∃v,e=dk (.tuple #[v,dn (firstF c j).isSome])/\mU w.heap.size w' (firstF c j) v)/\Bw w w':=by
 obtain ⟨g,o⟩:=Qe (((w.alloc (dy #[J dp k.toNat,J dp l.toNat,x] 62)).alloc (dy #[S j] 9)).alloc (dy #[S [],S [],S [],di Y 0 0] 123));have a4:g.heap.size=w.heap.size+3:=by rw [<- o];simp
 have B:Bw w g:=by rw [<- o];exact (((em _ w).alloc (ee _) _).alloc (by simp) _).alloc (by simp;omega) _
 have L:ai 0 g.heap.size g x c:=(fO E (ee _) B).mono (ee _) (by omega);have A:g.heap[w.heap.size]? =X (dy #[J dp k.toNat,J dp l.toNat,x] 62 (0,0)):=by rw [<- o,e7 _ _ _ (by simp;omega),e7 _ _ _ (by simp)];exact er w _
 have H:g.heap[w.heap.size+1]? =X (dy #[S j] 9 (0,0)):=by rw [<- o,e7 _ _ _ (by simp)];have:=er (w.alloc (dy #[J dp k.toNat,J dp l.toNat,x] 62)) (dy #[S j] 9);rwa [fl] at this
 have K:g.heap[w.heap.size+1+1]? =X (dy #[S [],S [],S [],di Y 0 0] 123 (0,0)):=by rw [<- o];have:=er ((w.alloc (dy #[J dp k.toNat,J dp l.toNat,x] 62)).alloc (dy #[S j] 9)) (dy #[S [],S [],S [],di Y 0 0] 123);rwa [fl,fl] at this
 have t:=Z (np (w.heap.size+1) j x c g L W (by rw [aa H];rfl));have O:g.cell? ⟨w.heap.size,2,Y⟩=X x:=by rw [aa A];rfl
 have a0:=E;have HA:=Z A;have G:=Z K;have m:=Z B;clear A H K L E B;rcases sf j c with ⟨n,r,V,q⟩|⟨r,q⟩
 · rw [r,show ixI (X n)=n from rfl] at t;rw [q];obtain ⟨b,s,R,d,hv,_,u,P,c1,c2,Q,F⟩:=a0.field n V;subst hv;have N:Hid (mU w.heap.size w (X c[n]) (.agg #[S c[n].tag,S c[n].ind,S c[n].data,d])):=⟨d,rfl,F⟩;obtain ⟨y,z,rfl,_⟩:=id F;generalize c[n].subs=ss at *;generalize c[n].tag=T at *;generalize c[n].ind=I at *;generalize c[n].data=D at *;generalize c[n]=FF at *;have a1:(n:Int)<(c.length:Int):=by omega
   clear r q F;go_enter func181,ntmps181;go_wp2_with (go_at_call 241;((with_reducible refine dz t.o ?_);rintro e f ⟨rfl,i⟩;have a3:f.cell? ⟨w.heap.size,2,Y⟩=X (di (X ⟨b,s,Y⟩) c.length R):=(((aE i).1 w.heap.size 2 (by omega)).trans O);have e0:f.cell? ⟨b,s+n * 4,Y⟩=X (S T):=((aE i).1 b _ (by omega)).trans (((aE m.o).1 b _ u).trans P);have e1:f.cell? ⟨b,s+n * 4+1,Y⟩=X (S I):=((aE i).1 b _ (by omega)).trans (((aE m.o).1 b _ u).trans c1);have e2:f.cell? ⟨b,s+n * 4+2,Y⟩=X (S D):=((aE i).1 b _ (by omega)).trans (((aE m.o).1 b _ u).trans c2);have e3:f.cell? ⟨b,s+n * 4+3,Y⟩=X (di y ss.length z):=((aE i).1 b _ (by omega)).trans (((aE m.o).1 b _ u).trans Q);have a:f.heap[w.heap.size+1+1]? =X (dy #[S [],S [],S [],di Y 0 0] 123 (0,0)):=(i.block _ (by omega)).trans G.o;have z0:=ab a 0;have z1:=ab a 1;have z2:=ab a 2;have z3:=ab a 3;have y0:f.cell? ⟨w.heap.size+1+1,0,Y⟩=X (S []):=(by rw [aa a];rfl);have y1:f.cell? ⟨w.heap.size+1+1,1,Y⟩=X (S []):=(by rw [aa a];rfl);have y2:f.cell? ⟨w.heap.size+1+1,2,Y⟩=X (S []):=(by rw [aa a];rfl);have y3:f.cell? ⟨w.heap.size+1+1,3,Y⟩=X (di Y 0 0):=(by rw [aa a];rfl);clear a))
   refine g2 (v:= .tuple #[.agg #[S T,S I,S D,di y ss.length z],dn true]) (by rw [fB rfl];go_simp) rfl ?_;have C:Bw w f:=m.trans (i.mono m.size);have M:=(((C.setCell (p:=⟨w.heap.size+1+1,0,Y⟩) (by simp;omega) (S T)).setCell (p:=⟨w.heap.size+1+1,1,Y⟩) (by simp;omega) (S I)).setCell (p:=⟨w.heap.size+1+1,2,Y⟩) (by simp;omega) (S D)).setCell (p:=⟨w.heap.size+1+1,3,Y⟩) (by simp;omega) (di y ss.length z);exact ⟨⟨_,rfl,mU.up N.o M⟩,M⟩
 · rw [r,show ixI Y= -1 from rfl] at t;rw [q];clear r q;go_enter func181,ntmps181;go_wp2_with (go_at_call 241;((with_reducible refine dz t.o ?_);rintro e f ⟨rfl,i⟩;have a:f.heap[w.heap.size+1+1]? =X (dy #[S [],S [],S [],di Y 0 0] 123 (0,0)):=(i.block _ (by omega)).trans G.o;have z0:=ab a 0;have z1:=ab a 1;have z2:=ab a 2;have z3:=ab a 3;have y0:f.cell? ⟨w.heap.size+1+1,0,Y⟩=X (S []):=(by rw [aa a];rfl);have y1:f.cell? ⟨w.heap.size+1+1,1,Y⟩=X (S []):=(by rw [aa a];rfl);have y2:f.cell? ⟨w.heap.size+1+1,2,Y⟩=X (S []):=(by rw [aa a];rfl);have y3:f.cell? ⟨w.heap.size+1+1,3,Y⟩=X (di Y 0 0):=(by rw [aa a];rfl);clear a))
   refine g2 (v:= .tuple #[.agg #[S [],S [],S [],di Y 0 0],dn false]) (by rw [fB rfl];go_simp) rfl ?_;have C:Bw w f:=m.trans (i.mono m.size);exact ⟨⟨_,rfl,di Y 0 0,rfl,_,_,rfl,λh=>absurd rfl h⟩,(((C.setCell (p:=⟨w.heap.size+1+1,0,Y⟩) (by simp;omega) _).setCell (p:=⟨w.heap.size+1+1,1,Y⟩) (by simp;omega) _).setCell (p:=⟨w.heap.size+1+1,2,Y⟩) (by simp;omega) _).setCell (p:=⟨w.heap.size+1+1,3,Y⟩) (by simp;omega) _⟩
theorem nl (s:Bs) (h:s.length≠4):aO s= -1:=by unfold aO;rw [if_neg λa=>h a.1]
theorem eC:∀s:Bs,s.length<4->bn s= -1
 |[],_=>rfl
 |c::l,h=>by
  unfold bn
  have:aO ((c::l).take 4)= -1:=nl _ (by rw [eQ];simp only [es] at *;omega)
  rw [this,if_neg (by omega)]
  exact eC l (by simp only [es] at h;omega)
theorem gI (s:Bs) (k:Nat) (h:k<s.length):bn (s.drop k)=if 0<=aO ((s.drop k).take 4) then aO ((s.drop k).take 4) else bn (s.drop (k+1)):=by
 rw [he h];rfl
theorem nK (o:Option af) (a:Bs):textF o a=textS (o.getD zeroF).subs a:=by
 cases o<;>rfl
theorem aD.up2 {c:Nat} {w w':ex} {v:fs} {d:List cB} (h:aD 0 c w v d) (a:Bw w w') (b:c<=w.heap.size):aD 0 w'.heap.size w' v d:=
 (o7 h b a).mono (ee _) (fr b a.size)
theorem ba (w:ex) (o:Obj):Bw w (w.alloc o):=(em _ w).alloc (ee _) _
theorem ya (k l:UInt8) (x:fs) (b:List af) (w:ex) (hs:ai 0 w.heap.size w x b) (a3:bR b):
 e9 prog 179 #[.agg #[J dp k.toNat,J dp l.toNat,x]] w λe w'=>e=dk (J U (bH b))/\Bw w w':=by
 have HS:=Z hs;have n:Hid (∀W,h7 (w.heap.size+1) (w.alloc (dy #[J dp k.toNat,J dp l.toNat,x] 62)) W->W.cell? ⟨w.heap.size,0,Y⟩=X (J dp k.toNat)/\W.cell? ⟨w.heap.size,1,Y⟩=X (J dp l.toNat)/\W.cell? ⟨w.heap.size,2,Y⟩=X x):=λW h=>by have:W.heap[w.heap.size]? =X (dy #[J dp k.toNat,J dp l.toNat,x] 62 (0,0)):=(h.block _ (by omega)).trans (er w _);exact ⟨by rw [aa this];rfl,by rw [aa this];rfl,by rw [aa this];rfl⟩
 have H1:Hid (∀(p:Bs) (W:ex),Bw w W->e9 prog 181 #[.agg #[J dp k.toNat,J dp l.toNat,x],S p] W λe w'=>(∃v,e=dk (.tuple #[v,dn (firstF b p).isSome])/\∃d,v= .agg #[S ((firstF b p).getD zeroF).tag,S ((firstF b p).getD zeroF).ind,S ((firstF b p).getD zeroF).data,d]/\aD 0 W.heap.size w' d ((firstF b p).getD zeroF).subs)/\Bw W w'):=λp W j=>
  oy k l x b p W ((fO HS.o (ee _) j).mono (ee _) j.size) a3.1
 have a0:Hid (∀p,((firstF b p).getD zeroF).subs.length<=1000000/\(∀s∈((firstF b p).getD zeroF).subs,s.text.length<=1000000)/\(textS ((firstF b p).getD zeroF).subs [99]).length<=1000000/\((firstF b p).getD zeroF).data.length<=1000000):=λp=>by
  cases h:firstF b p with
  |none=>exact ⟨by simp [zeroF],by simp [zeroF],by simp [zeroF,textS,dI],by simp [zeroF]⟩
  |some f=>
   have hm:=a3.2 f (ix h);refine ⟨fr (cM f) hm,λs hs=>lM hm hs,fr (nJ f [99]) hm,?_⟩;have:f.data.length<=(fieldBytes f).length:=by simp only [fieldBytes,eg];omega
   exact fr this hm
 have HY:Hid (bH b=if 0<=jr b then jr b else bn (textS ((firstF b [50,54,48]).getD zeroF).subs [99])):=by unfold Hid bH;rw [nK];rfl
 have a1:Hid (jr b=if (firstF b [48,48,56]).isSome=true/\11<=((firstF b [48,48,56]).getD zeroF).data.length then aO ((((firstF b [48,48,56]).getD zeroF).data.take 11).drop 7) else -1):=by
  unfold Hid jr;show (match firstF b [48,48,56] with |some f=>_|none=>_)=_;cases firstF b [48,48,56] with
  |none=>rfl
  |some f=>simp [CO]
 have H2:Hid (∀W,Bw w W->e9 prog 181 #[.agg #[J dp k.toNat,J dp l.toNat,x],S [50,54,48]] W λe w'=>(∃v,e=dk (.tuple #[v,dn (firstF b [50,54,48]).isSome])/\∃d,v= .agg #[S ((firstF b [50,54,48]).getD zeroF).tag,S ((firstF b [50,54,48]).getD zeroF).ind,S ((firstF b [50,54,48]).getD zeroF).data,d]/\aD 0 W.heap.size w' d ((firstF b [50,54,48]).getD zeroF).subs)/\Bw W w'):=H1.o [50,54,48];have H0:=Z (H1.o [48,48,56]);obtain ⟨m1,m2,m3,_⟩:=a0.o [50,54,48];obtain ⟨_,_,_,m4⟩:=a0.o [48,48,56]
 have H3:Hid (∀(a i D:Bs) (W:ex) (d:fs),aD 0 W.heap.size W d ((firstF b [50,54,48]).getD zeroF).subs->e9 prog 183 #[.agg #[S a,S i,S D,d],J dp 99] W λe w'=>e=dk (S (textS ((firstF b [50,54,48]).getD zeroF).subs [99]))/\Bw W w'):=λa i D W d h=>
  qY a i D d _ 99 W h m1 m2
 have HN:Hid (∀(s:Bs) (W:ex),s.length<=1000000->e9 prog 232 #[S s] W λe w'=>e=dk (J U (aO s))/\Bw W w'):=λs W h=>uf s W h;clear H1 a0 hs a3 m2;generalize (firstF b [50,54,48]).isSome=b6 at *;generalize (firstF b [48,48,56]).isSome=b8 at *;generalize (firstF b [50,54,48]).getD zeroF=g6 at *;generalize (firstF b [48,48,56]).getD zeroF=g8 at *;obtain ⟨t6,i6,d6,s6⟩:=g6;obtain ⟨t8,i8,I,s8⟩:=g8;dsimp only at *;generalize textS s6 [99]=T at *;have A:Hid (Bw w (w.alloc (dy #[J dp k.toNat,J dp l.toNat,x] 62))):=(em _ w).alloc (ee _) _;have au:(w.alloc (dy #[J dp k.toNat,J dp l.toNat,x] 62)).heap.size=w.heap.size+1:=by simp
 cases b8
 · have B:Hid (bH b=bn T):=by unfold Hid;rw [HY.o,a1.o,if_neg (by simp)]
   go_enter func179,ntmps179
   go_wp2_with (first
    |(go_at_call 181;((with_reducible refine dz (H0.o _ A.o) ?_);rintro e g ⟨⟨v,rfl,dd,rfl,m⟩,u⟩;obtain ⟨ad,cp,rfl,_⟩:=m;have c:Hid (∀o,h7 (w.heap.size+1) (w.alloc (dy #[J dp k.toNat,J dp l.toNat,x] 62)) (g.alloc o)):=λo=>(u.mono (by omega)).alloc (by have:=u.size;omega) o;have C:Hid (∀o,Bw w (g.alloc o)):=λo=>A.o.trans ((c.o o).mono (by omega));have xa:∀o,(g.alloc o).cell? ⟨w.heap.size,0,Y⟩=X (J dp k.toNat):=λo=>(n.o _ (c.o o)).1;have xb:∀o,(g.alloc o).cell? ⟨w.heap.size,1,Y⟩=X (J dp l.toNat):=λo=>(n.o _ (c.o o)).2.1;have xc:∀o,(g.alloc o).cell? ⟨w.heap.size,2,Y⟩=X x:=λo=>(n.o _ (c.o o)).2.2))
    |(go_at_call 181;((with_reducible refine dz (H2.o _ (C.o _)) ?_);rintro e R ⟨⟨v5,rfl,d5,rfl,m⟩,G⟩;obtain ⟨a6,a7,rfl,_⟩:=id m;have M:=Z m;clear m))
    |(go_at_call 183;((with_reducible refine dz (H3.o _ _ _ _ _ (M.o.up2 (ba _ _) G.size)) ?_);rintro e V ⟨rfl,N⟩)))
   have y:Bw w R:=btr (C _) G ((C _)).size;have O:Bw w V:=btr (y.alloc y.size _) N (by have:=y.size;simp;omega);go_loopw [9,10] (λi _n wr=>∃q:Nat,q<=T.length/\i=J U q/\Hid (bn T=bn (T.drop q))/\Bw w wr) (λi _ _=>T.length - (intOf i).toNat)
   case atStart=>exact ⟨0,fz _,rfl,rfl,O⟩
   case round=>
    obtain ⟨q,hq,rfl,t,j⟩:=hrel;by_cases hlt:q+4<=T.length
    · have P:(q:Int)+4<=(T.length:Int):=by omega
      have H:((T.take (q+4)).drop q)=(T.drop q).take 4:=by rw [List.take_drop]
      have r:Hid (bn (T.drop q)=if 0<=aO ((T.take (q+4)).drop q) then aO ((T.take (q+4)).drop q) else bn (T.drop (q+1))):=by unfold Hid;rw [gI T q (by omega),H]
      have F:Hid (∀W,e9 prog 232 #[S ((T.take (q+4)).drop q)] W λe w'=>e=dk (J U (aO ((T.take (q+4)).drop q)))/\Bw W w'):=λW=>HN.o _ W (by rw [e8,eQ];omega);clear H;generalize aO ((T.take (q+4)).drop q)=nf at *;by_cases hnf:0<=nf
      · rw [if_pos hnf] at r;go_wp2_with (go_at_call 232;((with_reducible refine dz (F.o _) ?_);rintro e w7 ⟨rfl,z⟩))
        go_ret;exact ⟨aH (by rw [B.o,t.o,r.o]),btr j z j.size⟩
      · rw [if_neg hnf] at r;go_wp2_with (go_at_call 232;((with_reducible refine dz (F.o _) ?_);rintro e w7 ⟨rfl,z⟩))
        go_roundw
        case rel=>exact ⟨q+1,by omega,by go_num,by unfold Hid;rw [t.o,r.o],btr j z j.size⟩
        case measure=>simp [intOf];omega
    · have P:¬((q:Int)+4<=(T.length:Int)):=by omega
      have L:Hid (bn (T.drop q)= -1):=eC _ (by rw [e8];omega);go_wp2_with fail
      go_ret;exact ⟨aH (by rw [B.o,t.o,L.o]),j⟩
 · by_cases h11:11<=I.length
   · have a9:(11:Int)<=(I.length:Int):=by omega
     have a5:Hid (jr b=aO ((I.take 11).drop 7)):=by unfold Hid;rw [a1.o,if_pos ⟨rfl,h11⟩]
     have a4:Hid (∀W,e9 prog 232 #[S ((I.take 11).drop 7)] W λe w'=>e=dk (J U (aO ((I.take 11).drop 7)))/\Bw W w'):=λW=>HN.o _ W (by rw [e8,eQ];omega);generalize aO ((I.take 11).drop 7)=nf8 at *;by_cases hnf8:0<=nf8
     · have B:Hid (bH b=nf8):=by unfold Hid;rw [HY.o,a5.o,if_pos hnf8]
       go_enter func179,ntmps179
       go_wp2_with (first
        |(go_at_call 181;((with_reducible refine dz (H0.o _ A.o) ?_);rintro e g ⟨⟨v,rfl,dd,rfl,m⟩,u⟩;obtain ⟨ad,cp,rfl,_⟩:=m;have c:Hid (∀o,h7 (w.heap.size+1) (w.alloc (dy #[J dp k.toNat,J dp l.toNat,x] 62)) (g.alloc o)):=λo=>(u.mono (by omega)).alloc (by have:=u.size;omega) o;have C:Hid (∀o,Bw w (g.alloc o)):=λo=>A.o.trans ((c.o o).mono (by omega));have xa:∀o,(g.alloc o).cell? ⟨w.heap.size,0,Y⟩=X (J dp k.toNat):=λo=>(n.o _ (c.o o)).1;have xb:∀o,(g.alloc o).cell? ⟨w.heap.size,1,Y⟩=X (J dp l.toNat):=λo=>(n.o _ (c.o o)).2.1;have xc:∀o,(g.alloc o).cell? ⟨w.heap.size,2,Y⟩=X x:=λo=>(n.o _ (c.o o)).2.2))
        |(go_at_call 232;((with_reducible refine dz (a4.o _) ?_);rintro e Q ⟨rfl,a2⟩;have E:h7 (w.heap.size+1) (w.alloc (dy #[J dp k.toNat,J dp l.toNat,x] 62)) Q:=btr (c.o _) a2 (by have:=(c.o (dy #[] 0)).size;simp at this ⊢;omega);have K:Hid (Bw w Q):=A.o.trans (E.mono (by omega));have ac:=(n.o _ E).1;have al:=(n.o _ E).2.1;have ao:=(n.o _ E).2.2)))
       go_ret;exact ⟨aH B.symm,K.o⟩
     · have B:Hid (bH b=bn T):=by unfold Hid;rw [HY.o,a5.o,if_neg hnf8]
       go_enter func179,ntmps179
       go_wp2_with (first
        |(go_at_call 181;((with_reducible refine dz (H0.o _ A.o) ?_);rintro e g ⟨⟨v,rfl,dd,rfl,m⟩,u⟩;obtain ⟨ad,cp,rfl,_⟩:=m;have c:Hid (∀o,h7 (w.heap.size+1) (w.alloc (dy #[J dp k.toNat,J dp l.toNat,x] 62)) (g.alloc o)):=λo=>(u.mono (by omega)).alloc (by have:=u.size;omega) o;have C:Hid (∀o,Bw w (g.alloc o)):=λo=>A.o.trans ((c.o o).mono (by omega));have xa:∀o,(g.alloc o).cell? ⟨w.heap.size,0,Y⟩=X (J dp k.toNat):=λo=>(n.o _ (c.o o)).1;have xb:∀o,(g.alloc o).cell? ⟨w.heap.size,1,Y⟩=X (J dp l.toNat):=λo=>(n.o _ (c.o o)).2.1;have xc:∀o,(g.alloc o).cell? ⟨w.heap.size,2,Y⟩=X x:=λo=>(n.o _ (c.o o)).2.2))
        |(go_at_call 232;((with_reducible refine dz (a4.o _) ?_);rintro e Q ⟨rfl,a2⟩;have E:h7 (w.heap.size+1) (w.alloc (dy #[J dp k.toNat,J dp l.toNat,x] 62)) Q:=btr (c.o _) a2 (by have:=(c.o (dy #[] 0)).size;simp at this ⊢;omega);have K:Hid (Bw w Q):=A.o.trans (E.mono (by omega));have ac:=(n.o _ E).1;have al:=(n.o _ E).2.1;have ao:=(n.o _ E).2.2))
        |(go_at_call 181;((with_reducible refine dz (H2.o _ K.o) ?_);rintro e R ⟨⟨v5,rfl,d5,rfl,m⟩,G⟩;obtain ⟨a6,a7,rfl,_⟩:=id m;have M:=Z m;clear m))
        |(go_at_call 183;((with_reducible refine dz (H3.o _ _ _ _ _ (M.o.up2 (ba _ _) G.size)) ?_);rintro e V ⟨rfl,N⟩)))
       have y:Bw w R:=btr K.o G (K.o).size;have O:Bw w V:=btr (y.alloc y.size _) N (by have:=y.size;simp;omega);go_loopw [9,10] (λi _n wr=>∃q:Nat,q<=T.length/\i=J U q/\Hid (bn T=bn (T.drop q))/\Bw w wr) (λi _ _=>T.length - (intOf i).toNat)
       case atStart=>exact ⟨0,fz _,rfl,rfl,O⟩
       case round=>
        obtain ⟨q,hq,rfl,t,j⟩:=hrel;by_cases hlt:q+4<=T.length
        · have P:(q:Int)+4<=(T.length:Int):=by omega
          have H:((T.take (q+4)).drop q)=(T.drop q).take 4:=by rw [List.take_drop]
          have r:Hid (bn (T.drop q)=if 0<=aO ((T.take (q+4)).drop q) then aO ((T.take (q+4)).drop q) else bn (T.drop (q+1))):=by unfold Hid;rw [gI T q (by omega),H]
          have F:Hid (∀W,e9 prog 232 #[S ((T.take (q+4)).drop q)] W λe w'=>e=dk (J U (aO ((T.take (q+4)).drop q)))/\Bw W w'):=λW=>HN.o _ W (by rw [e8,eQ];omega);clear H;generalize aO ((T.take (q+4)).drop q)=nf at *;by_cases hnf:0<=nf
          · rw [if_pos hnf] at r;go_wp2_with (go_at_call 232;((with_reducible refine dz (F.o _) ?_);rintro e w7 ⟨rfl,z⟩))
            go_ret;exact ⟨aH (by rw [B.o,t.o,r.o]),btr j z j.size⟩
          · rw [if_neg hnf] at r;go_wp2_with (go_at_call 232;((with_reducible refine dz (F.o _) ?_);rintro e w7 ⟨rfl,z⟩))
            go_roundw
            case rel=>exact ⟨q+1,by omega,by go_num,by unfold Hid;rw [t.o,r.o],btr j z j.size⟩
            case measure=>simp [intOf];omega
        · have P:¬((q:Int)+4<=(T.length:Int)):=by omega
          have L:Hid (bn (T.drop q)= -1):=eC _ (by rw [e8];omega);go_wp2_with fail
          go_ret;exact ⟨aH (by rw [B.o,t.o,L.o]),j⟩
   · have a9:¬((11:Int)<=(I.length:Int)):=by omega
     have a8:jr b= -1:=by rw [a1.o,if_neg (λh=>h11 h.2)]
     have B:Hid (bH b=bn T):=by unfold Hid;rw [HY.o,a8,if_neg (by omega)]
     clear a8;go_enter func179,ntmps179
     go_wp2_with (first
      |(go_at_call 181;((with_reducible refine dz (H0.o _ A.o) ?_);rintro e g ⟨⟨v,rfl,dd,rfl,m⟩,u⟩;obtain ⟨ad,cp,rfl,_⟩:=m;have c:Hid (∀o,h7 (w.heap.size+1) (w.alloc (dy #[J dp k.toNat,J dp l.toNat,x] 62)) (g.alloc o)):=λo=>(u.mono (by omega)).alloc (by have:=u.size;omega) o;have C:Hid (∀o,Bw w (g.alloc o)):=λo=>A.o.trans ((c.o o).mono (by omega));have xa:∀o,(g.alloc o).cell? ⟨w.heap.size,0,Y⟩=X (J dp k.toNat):=λo=>(n.o _ (c.o o)).1;have xb:∀o,(g.alloc o).cell? ⟨w.heap.size,1,Y⟩=X (J dp l.toNat):=λo=>(n.o _ (c.o o)).2.1;have xc:∀o,(g.alloc o).cell? ⟨w.heap.size,2,Y⟩=X x:=λo=>(n.o _ (c.o o)).2.2))
      |(go_at_call 181;((with_reducible refine dz (H2.o _ (C.o _)) ?_);rintro e R ⟨⟨v5,rfl,d5,rfl,m⟩,G⟩;obtain ⟨a6,a7,rfl,_⟩:=id m;have M:=Z m;clear m))
      |(go_at_call 183;((with_reducible refine dz (H3.o _ _ _ _ _ (M.o.up2 (ba _ _) G.size)) ?_);rintro e V ⟨rfl,N⟩)))
     have y:Bw w R:=btr (C _) G ((C _)).size;have O:Bw w V:=btr (y.alloc y.size _) N (by have:=y.size;simp;omega);go_loopw [9,10] (λi _n wr=>∃q:Nat,q<=T.length/\i=J U q/\Hid (bn T=bn (T.drop q))/\Bw w wr) (λi _ _=>T.length - (intOf i).toNat)
     case atStart=>exact ⟨0,fz _,rfl,rfl,O⟩
     case round=>
      obtain ⟨q,hq,rfl,t,j⟩:=hrel;by_cases hlt:q+4<=T.length
      · have P:(q:Int)+4<=(T.length:Int):=by omega
        have H:((T.take (q+4)).drop q)=(T.drop q).take 4:=by rw [List.take_drop]
        have r:Hid (bn (T.drop q)=if 0<=aO ((T.take (q+4)).drop q) then aO ((T.take (q+4)).drop q) else bn (T.drop (q+1))):=by unfold Hid;rw [gI T q (by omega),H]
        have F:Hid (∀W,e9 prog 232 #[S ((T.take (q+4)).drop q)] W λe w'=>e=dk (J U (aO ((T.take (q+4)).drop q)))/\Bw W w'):=λW=>HN.o _ W (by rw [e8,eQ];omega);clear H;generalize aO ((T.take (q+4)).drop q)=nf at *;by_cases hnf:0<=nf
        · rw [if_pos hnf] at r;go_wp2_with (go_at_call 232;((with_reducible refine dz (F.o _) ?_);rintro e w7 ⟨rfl,z⟩))
          go_ret;exact ⟨aH (by rw [B.o,t.o,r.o]),btr j z j.size⟩
        · rw [if_neg hnf] at r;go_wp2_with (go_at_call 232;((with_reducible refine dz (F.o _) ?_);rintro e w7 ⟨rfl,z⟩))
          go_roundw
          case rel=>exact ⟨q+1,by omega,by go_num,by unfold Hid;rw [t.o,r.o],btr j z j.size⟩
          case measure=>simp [intOf];omega
      · have P:¬((q:Int)+4<=(T.length:Int)):=by omega
        have L:Hid (bn (T.drop q)= -1):=eC _ (by rw [e8];omega);go_wp2_with fail
        go_ret;exact ⟨aH (by rw [B.o,t.o,L.o]),j⟩
end
end Go.Proofs.YtjcimanddakkaaaGreatDoor
