/- Lemmas. -/
import Derived.Test.YtjcimanddakkaaaGreatDoorCT13
set_option maxRecDepth 100000
set_option maxHeartbeats 8000000
namespace Go.Proofs.YtjcimanddakkaaaGreatDoor
open _root_.Option renaming some→X,none→Y
open Go.Ending renaming returned→bw
open Go.Value renaming bool→bA,int→J
open Go.Lib renaming hid→Z
open Go.Obj renaming cells→bB
open Go.IntKind renaming u8→bO
open Tryz
open _root_.UInt8 renaming ofNat→bY,ofNat_toNat→cc
open Go.Calls renaming mono→ca
open _root_.Nat renaming le_trans→cb
open Go.Region renaming wanted→cd
open _root_.List renaming take_of_length_le→cg,takeWhile_prefix→ch,length_filter_le→ci
section
open Go.RowKit Go.Maps Go.Shelf
theorem cG{P:Program}{d:Region.Mode}{b:Array Oper}{Q:Exit->Act->World->Prop}{S:World->Prop}{z i:Nat}{o:Oper}{n:Nat}{c:Array Bool}{a:Act}{w:World}(m:b[i]?=X o)(f:Region.ready d b c=[i])(l:cd o (yielded b a.tmps)=false)(k:S w)
 (h:anyT P d b Q S z n (c.setIfInBounds i true) (a.put o.dst undef) w):anyT P d b Q S z (n+1) c a w:=by
 refine⟨λg=>absurd g (by rw[f];simp),λj e=>?_⟩;rw[f]at e;obtain rfl:j=i:=by simpa using e
 unfold wpOp;rw[m];simp only[l];exact⟨λ_=>k,h⟩
theorem fW{P:Program}{d:Region.Mode}{b:Array Oper}{Q:Exit->Act->World->Prop}{S:World->Prop}{z i j:Nat}{o f:Oper}{n:Nat}{c:Array Bool}{a:Act}{w:World}(s:b[i]?=X o)(t:b[j]?=X f)(l:Region.ready d b c=[i,j])(q:cd o (yielded b a.tmps)=false)(r:cd f (yielded b a.tmps)=false)(g:S w)
 (h:anyT P d b Q S z n (c.setIfInBounds i true) (a.put o.dst undef) w)(m:anyT P d b Q S z n (c.setIfInBounds j true) (a.put f.dst undef) w):anyT P d b Q S z (n+1) c a w:=by
 refine⟨λp=>absurd p (by rw[l];simp),λk e=>?_⟩;rw[l]at e;simp only[List.mem_cons,List.not_mem_nil,or_false]at e;rcases e with rfl|rfl
 .unfold wpOp;rw[s];simp only[q];exact⟨λ_=>g,h⟩
 unfold wpOp;rw[t];simp only[r];exact⟨λ_=>g,m⟩
theorem yv(l:Bs):Lib.toUpperA l=l.map upB:=by
 unfold Lib.toUpperA;refine List.map_congr_left λc _=>?_;have:∀n<256,Lib.upperB (bY n)=upB (bY n):=by decide+kernel
 have:=this c c.toNat_lt;rwa[cc]at this
theorem xm(s:Bs):keepL (s.takeWhile partB)=isbnGo s:=(xr s).symm
theorem BL(s:Bs):∀c∈(isbnGo s).map upB,digitB c=true∨c=88:=by
 intro c a;obtain⟨d,b,rfl⟩:=List.mem_map.1 a;have h:=jK s d b;have:∀n<256,(digitB (bY n)||xB (bY n))=true->digitB (upB (bY n))=true∨upB (bY n)=88:=by decide+kernel
 have:=this d d.toNat_lt;rw[cc]at this;exact this h
theorem zB(s:Bs):∀c∈isbnGo s,c.toNat<128:=by
 intro d a;have h:=jK s d a;have:∀n<256,(digitB (bY n)||xB (bY n))=true->(bY n).toNat<128:=by decide+kernel
 have:=this d d.toNat_lt;rw[cc]at this;exact this h
theorem wo(s:Bs):s.take (partN s)=s.takeWhile partB:=(List.prefix_iff_eq_take.1 (ch partB)).symm
theorem jL(s:Bs)(w:World)(hs:s.length<=1000000000):Calls prog 180 #[S s] w λe w'=>e=bw (.tuple #[S ((isbnR s).getD []),bA (isbnR s).isSome])/\Bw w w':=by
 have HI:=Z (uF s w hs);obtain⟨p,hp⟩:=Qe (s.takeWhile partB);obtain⟨u,O⟩:=Qe ((isbnGo s).map upB);have a1:keepL p=isbnGo s:=by rw[<- hp];exact xm s
 have a2:p.length<=1000000000:=by rw[<- hp];exact cb (ch _).length_le hs
 have HP:=Z hp;have b2:Hid (∀c∈u,digitB c=true∨c=88):=by rw[<- O];exact BL s
 have b1:Hid (∀W,Calls prog 236 #[S (keepL p)] W λe w'=>e=bw (S u)/\Bw W w'):=λW=>by have y:(keepL p).length<=1000000000:=cb (ci _ _) a2;refine(strings_ToUpper_ascii ⟨(keepL p).toArray⟩ W (by show(keepL p).length<=_;omega) (λj b hb=>zB s b (by rw[<- a1];exact List.mem_of_getElem? hb))).mono ?_;rintro e w'⟨rfl,hb⟩;refine⟨?_,hb⟩;show Ending.returned (S (Lib.toUpperA (keepL p)))=_;rw[yv,a1,O]
 have hR:fP u=isbnR s:=by rw[<- O];exact CW s
 obtain⟨r,hr⟩:=Qe (isbnR s);rw[hr]at hR ⊢;have N:=Z hR;have aT:=Z a2;have bv:u.length<=1000000000:=by rw[<- O,List.length_map,<- a1];exact cb (ci _ _) a2
 have ao:=Z (wo s);have b0:=Z (ze s);obtain⟨A,a9⟩:=Qe (r.getD []);obtain⟨B,aa⟩:=Qe r.isSome;rw[a9,aa];have G:=Z a9;have H:=Z aa;clear a9 aa;clear hp O a1 hR hr a2;generalize hn:partN s=n at*;go_enter func180,ntmps180;go_upto_if 8 with(go_at_call 233;refine ca HI.o ?_;rintro e w1⟨rfl,V⟩)
 go_cut [0]from 4 to 11 (λv wx=>v=S p/\Hid (Bw w wx))
 case first=>
  have F:=Z V;by_cases hnl:n=s
  .have b6:S s=S p:=by rw[<- HP.o,<- ao.o,hnl,List.take_length]
   rw[if_pos hnl];clear V hnl;go_wp2_with fail;go_meet;exact⟨b6,F⟩
  have bk:(n:Int)<s:=by have:=b0.o;omega
  have bd:(0:Int)<=n:=by omega
  have bt:s.take n=p:=ao.trans HP.o;rw[if_neg hnl];clear V hnl;go_wp2_with fail;go_meet;exact⟨rfl,F⟩
 obtain⟨rfl,F⟩:=hcut;clear V;have hA:(wc.alloc (bB #[S [32],S [],S [45],S []] 9)).heap[wc.heap.size]?=X (bB #[S [32],S [],S [45],S []] 9 (0,0)):=World.alloc_heap_new wc _;have aC:Bw w (wc.alloc (bB #[S [32],S [],S [45],S []] 9)):=F.alloc F.size _;have ac:=Z (Bc _ _ hA);have P:=Z aC;clear hA aC
 go_upto_region 5 with(first
  |(go_at_call 237;refine ca ac.o ?_;rintro e w2⟨R,on,kk,cs,rfl,av,_,_,ax,au,ay⟩;have a3:Hid (Bw w w2):=btr P.o ay P.o.size;have ad:Hid (w<=R):=cb P.o.size av;have al:=Z (rK R on kk cs p w2 ax au aT.o);clear av ax au ay)
  |(go_at_call 238;refine ca al.o ?_;rintro e w3⟨rfl,aS⟩;have a4:Hid (Bw w w3):=a3.o.trans (aS.below (λk hk=>(by rw[hk];exact ad.o)) a3.o.size).1;clear aS)
  |(go_at_call 236;refine ca (b1.o _) ?_;rintro e D⟨rfl,az⟩;have x:Hid (Bw w D):=btr a4.o az a4.o.size;clear az))
 clear ac al F P a3 a4 ad;by_cases hl:u.length=10
 .have b5:((u.length:Int)==10)=true:=by simp[hl]
  have a6:=Z (mj u D hl b2.o);obtain⟨q,z⟩:=Qe ((decide (tenSum 0 u%11=0)&&(u.take 9).all digitB));rw[z]at a6;have HQ:=Z z;have HL:=Z hl;clear z;cases q
  .have g:Hid (([]:Bs)=A/\false=B):=by
    have y:fP u=Y:=by unfold fP;rw[if_neg (λh=>by have:=HQ.o;rw[decide_eq_true h.2.1,h.2.2]at this;cases this),if_neg (λh=>by have:=h.1;have:=HL.o;omega)]
    have t:Y=r:=y.symm.trans N.o;subst t;exact⟨G.o,H.o⟩
   have bc:((u.length:Int)==13)=false:=by simp[hl]
   clear hl;go_wp2_with (go_at_call 239;refine ca a6.o ?_;rintro e E⟨rfl,l⟩)
   have o:Hid (Bw w E):=btr x.o l x.size;clear l;go_region;go_wp2_with fail;go_ret2;exact⟨(by rw[<- g.o.1,<- g.o.2];rfl),o.o.drew⟩
  have b7:u.length=10:=hl;obtain⟨T,hT⟩:=Qe (u.take 9);have C:T.length=9:=by rw[<- hT,List.length_take];omega
  have a8:tenSum 0 u%11=0/\T.all digitB=true:=by have:=HQ.o;rw[hT]at this;simpa using this
  have Q:Hid (∀W,Calls prog 240 #[S ([57,55,56]++T++[48])] W λe w'=>e=bw (J bO (checkR ([57,55,56]++T)).toNat)/\Bw W w'):=λW=>by
   have e1:([57,55,56]++T++[48]).take 12=[57,55,56]++T:=by rw[List.take_append_of_le_length (by simp[C]),cg (by simp[C])]
   have:=oV ([57,55,56]++T++[48]) W (by simp[C]) (by simp[C]) (by rw[e1];simp[a8.2];decide);have e2:checkR ([57,55,56]++T++[48])=checkR ([57,55,56]++T):=by unfold checkR;rw[e1,cg (by simp[C])]
   rw[e2]at this;exact this
  have g:Hid (([57,55,56]++T++[checkR ([57,55,56]++T)])=A/\true=B):=by
   have y:fP u=X ([57,55,56]++T++[checkR ([57,55,56]++T)]):=by unfold fP;rw[hT,if_pos ⟨hl,a8⟩]
   have t:X _=r:=y.symm.trans N.o;subst t;exact⟨G.o,H.o⟩
  have bl:¬9223372036854775807<3+T.length:=by omega
  have bs:¬9223372036854775807<T.length+1+1+1+1:=by omega
  have b8:=Z C;clear b7 a8 C;go_wp2_with (first|(go_at_call 239;refine ca a6.o ?_;rintro e E⟨rfl,l⟩)|(go_at_call 240;refine ca (Q.o _) ?_;rintro e w6⟨rfl,f⟩))
  have L:Hid (Bw w w6):=btr (btr x.o l x.size) f (cb x.size l.size);clear l f;go_ret2;exact⟨(by rw[<- g.o.1,<- g.o.2];rfl),L.o.alloc L.o.size _⟩
 have b5:((u.length:Int)==10)=false:=by simp;omega
 have a5:=Z hl;clear hl;by_cases h13:u.length=13;rotate_left
 .have b4:((u.length:Int)==13)=false:=by simp;omega
  have g:Hid (([]:Bs)=A/\false=B):=by
   have y:fP u=Y:=by unfold fP;rw[if_neg (λh=>a5.o h.1),if_neg (λh=>h13 h.1)]
   have t:Y=r:=y.symm.trans N.o;subst t;exact⟨G.o,H.o⟩
  clear h13;go_wp2_with fail;go_region;go_wp2_with fail;go_ret2;exact⟨(by rw[<- g.o.1,<- g.o.2];rfl),x.o.drew⟩
 have b4:((u.length:Int)==13)=true:=by simp[h13]
 have HD:=Z (λW=>dX u W (by omega));obtain⟨q,z⟩:=Qe (u.all digitB);rw[z]at HD;cases q;rotate_left
 .have Q:=Z (λW=>oV u W (by omega) (by omega) (by refine List.all_eq_true.2 λc I=>List.all_eq_true.1 z c (List.mem_of_mem_take I)))
  obtain⟨c,I⟩:=Qe (checkR u);obtain⟨d,a0⟩:=Qe (u.getD 12 0);have hd:∀h:12<u.length,u[12]'h=d:=λh=>by rw[<- a0];simp[List.getD_eq_getElem?_getD,h]
  rw[I]at Q;have b9:12<u.length:=by omega
  have bb:(12:Int)<u:=by omega
  obtain⟨m,hm⟩:∃m:Bool,((c.toNat:Int)==(d.toNat:Int))=m:=⟨_,rfl⟩;have a7:m=decide (c=d):=by rw[<- hm,Bool.eq_iff_iff];simp only[beq_iff_eq,decide_eq_true_eq];exact⟨λh=>UInt8.toNat_inj.1 (by omega),λh=>by rw[h]⟩
  have hF:(if m then X u else Y)=r:=by
   have y:fP u=if m then X u else Y:=by
    unfold fP;rw[if_neg (λh=>a5.o h.1)];by_cases hcd:c=d
    .rw[if_pos ⟨h13,z,by rw[I,a0,hcd]⟩,a7,decide_eq_true hcd];rfl
    rw[if_neg (λh=>hcd (by rw[<- I,<- a0];exact h.2.2)),a7,decide_eq_false hcd];rfl
   rw[<- y,N.o]
  have g:=Z hF;clear hF a7 a0 I h13 z;go_wp2_with fail;go_region_with (first|(go_at_call 230;refine ca (HD.o _) ?_;rintro e E⟨rfl,l⟩;have o:Hid (Bw w E):=btr x.o.drew l x.o.size;clear l)|(go_at_call 240;refine ca (Q.o _) ?_;rintro e w6⟨rfl,f⟩;have L:Hid (Bw w w6):=btr o.o f o.o.size;clear f))
  all_goals(
   cases m
   .have M:Hid (([]:Bs)=A/\false=B):=by
     have t:Y=r:=g.o
     subst t
     exact⟨G.o,H.o⟩
    go_wp2_with fail
    go_ret2
    exact⟨(by rw[<- M.o.1,<- M.o.2];rfl),L.o⟩
   .have M:Hid (u=A/\true=B):=by
     have t:X u=r:=g.o
     subst t
     exact⟨G.o,H.o⟩
    go_wp2_with fail
    go_ret2
    exact⟨(by rw[<- M.o.1,<- M.o.2];rfl),L.o⟩)
 have g:Hid (([]:Bs)=A/\false=B):=by
  have y:fP u=Y:=by unfold fP;rw[if_neg (λh=>a5.o h.1),if_neg (λh=>by have:=h.2.1;rw[z]at this;cases this)]
  have t:Y=r:=y.symm.trans N.o;subst t;exact⟨G.o,H.o⟩
 clear h13 z;go_wp2_with fail;have l:Bw D D.drew:=(Below.refl _ D).drew;refine Wb D 14 ?_;refine Ds 0 l ?_;refine Ds 1 l ?_;refine Ds 2 l ?_;refine Ds 3 l ?_;refine ng (i:=4) rfl (by kernel_rfl) (by rfl) (λK a=>?_);go_simp;refine a _ _ (λ_=>l) ?_;clear a K;refine ng (i:=5) rfl (by kernel_rfl) (by rfl) (λK a=>?_);go_simp;go_at_call 230;refine ca (HD _) ?_;rintro e E⟨rfl,b3⟩;have f:Bw D E:=btr l b3 l.size;have o:Hid (Bw w E):=btr x.o f x.size;refine a _ _ (λ_=>f) ?_;clear a K;go_simp;refine Ds 6 f ?_;refine Ds 7 f ?_;refine fW (i:=8) (j:=10) rfl rfl (by kernel_rfl) (by rfl) (by rfl) f ?_ ?_
 ·(try go_simp)
  refine fW (i:=9) (j:=10) rfl rfl (by kernel_rfl) (by rfl) (by rfl) f ?_ ?_
  ·(try go_simp)
   refine cG (i:=10) rfl (by kernel_rfl) (by rfl) f ?_;(try go_simp)
   refine cG (i:=11) rfl (by kernel_rfl) (by rfl) f ?_;(try go_simp)
   refine cG (i:=12) rfl (by kernel_rfl) (by rfl) f ?_;(try go_simp)
   refine Qa [13] f ?_
   refine Dl 14 ?_;go_wp2_with fail;go_ret2;exact⟨(by rw[<- g.o.1,<- g.o.2];rfl),o.o⟩
  (try go_simp)
  refine fW (i:=9) (j:=11) rfl rfl (by kernel_rfl) (by rfl) (by rfl) f ?_ ?_
  ·(try go_simp)
   refine cG (i:=11) rfl (by kernel_rfl) (by rfl) f ?_;(try go_simp)
   refine cG (i:=12) rfl (by kernel_rfl) (by rfl) f ?_;(try go_simp)
   refine Qa [13] f ?_
   refine Dl 14 ?_;go_wp2_with fail;go_ret2;exact⟨(by rw[<- g.o.1,<- g.o.2];rfl),o.o⟩
  (try go_simp)
  refine cG (i:=9) rfl (by kernel_rfl) (by rfl) f ?_;(try go_simp)
  refine cG (i:=12) rfl (by kernel_rfl) (by rfl) f ?_;(try go_simp)
  refine Qa [13] f ?_
  refine Dl 14 ?_;go_wp2_with fail;go_ret2;exact⟨(by rw[<- g.o.1,<- g.o.2];rfl),o.o⟩
 (try go_simp)
 refine fW (i:=8) (j:=11) rfl rfl (by kernel_rfl) (by rfl) (by rfl) f ?_ ?_
 ·(try go_simp)
  refine fW (i:=9) (j:=11) rfl rfl (by kernel_rfl) (by rfl) (by rfl) f ?_ ?_
  ·(try go_simp)
   refine cG (i:=11) rfl (by kernel_rfl) (by rfl) f ?_;(try go_simp)
   refine cG (i:=12) rfl (by kernel_rfl) (by rfl) f ?_;(try go_simp)
   refine Qa [13] f ?_
   refine Dl 14 ?_;go_wp2_with fail;go_ret2;exact⟨(by rw[<- g.o.1,<- g.o.2];rfl),o.o⟩
  (try go_simp)
  refine cG (i:=9) rfl (by kernel_rfl) (by rfl) f ?_;(try go_simp)
  refine cG (i:=12) rfl (by kernel_rfl) (by rfl) f ?_;(try go_simp)
  refine Qa [13] f ?_
  refine Dl 14 ?_;go_wp2_with fail;go_ret2;exact⟨(by rw[<- g.o.1,<- g.o.2];rfl),o.o⟩
 (try go_simp)
 refine cG (i:=8) rfl (by kernel_rfl) (by rfl) f ?_;(try go_simp)
 refine cG (i:=9) rfl (by kernel_rfl) (by rfl) f ?_;(try go_simp)
 refine cG (i:=12) rfl (by kernel_rfl) (by rfl) f ?_;(try go_simp)
 refine Qa [13] f ?_
 refine Dl 14 ?_;go_wp2_with fail;go_ret2;exact⟨(by rw[<- g.o.1,<- g.o.2];rfl),o.o⟩
end
end Go.Proofs.YtjcimanddakkaaaGreatDoor
