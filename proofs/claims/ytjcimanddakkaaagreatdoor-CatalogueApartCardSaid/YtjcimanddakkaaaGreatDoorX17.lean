/- Lemmas. -/
import Derived.Test.YtjcimanddakkaaaGreatDoorX0
import Derived.Test.YtjcimanddakkaaaGreatDoorX13
import Derived.Test.YtjcimanddakkaaaGreatDoorX16
set_option maxRecDepth 100000
set_option maxHeartbeats 8000000
namespace Go.Proofs.YtjcimanddakkaaaGreatDoor
open Go.Lib renaming hid→a0a
open _root_.UInt8 renaming ofNat→a0b,ofNat_toNat→a0e
open Go.Calls renaming mono→a0c
open _root_.Nat renaming le_trans→a0d
open Go.RowKit renaming Below→a0f
open Go.Region renaming wanted→a0g
open _root_.List renaming take_of_length_le→a0h,takeWhile_prefix→a0i,length_filter_le→a0j
section
open Go.RowKit Go.Maps Go.Shelf
theorem ca {P:Program} {d:Region.Mode} {b:Array Oper} {Q:Exit->Act->World->Prop} {S:World->Prop} {z i:Nat} {o:Oper} {n:Nat} {c:Array Bool} {a:Act} {w:World} (m:b[i]? =some o) (f:Region.ready d b c=[i]) (l:a0g o (yielded b a.tmps)=false) (k:S w)
 (h:anyT P d b Q S z n (c.setIfInBounds i true) (a.put o.dst undef) w):anyT P d b Q S z (n+1) c a w:=by
 refine ⟨λg=>absurd g (by rw [f];simp),λj e=>?_⟩;rw [f] at e;obtain rfl:j=i:=by simpa using e
 unfold wpOp;rw [m];simp only [l];exact ⟨λ_=>k,h⟩
theorem ff {P:Program} {d:Region.Mode} {b:Array Oper} {Q:Exit->Act->World->Prop} {S:World->Prop} {z i j:Nat} {o f:Oper} {n:Nat} {c:Array Bool} {a:Act} {w:World} (s:b[i]? =some o) (t:b[j]? =some f) (l:Region.ready d b c=[i,j]) (q:a0g o (yielded b a.tmps)=false) (r:a0g f (yielded b a.tmps)=false) (g:S w)
 (h:anyT P d b Q S z n (c.setIfInBounds i true) (a.put o.dst undef) w) (m:anyT P d b Q S z n (c.setIfInBounds j true) (a.put f.dst undef) w):anyT P d b Q S z (n+1) c a w:=by
 refine ⟨λp=>absurd p (by rw [l];simp),λk e=>?_⟩;rw [l] at e;simp only [List.mem_cons,List.not_mem_nil,or_false] at e;rcases e with rfl|rfl
 · unfold wpOp;rw [s];simp only [q];exact ⟨λ_=>g,h⟩
 · unfold wpOp;rw [t];simp only [r];exact ⟨λ_=>g,m⟩
theorem wg (l:Bs):Lib.toUpperA l=l.map upB:=by
 unfold Lib.toUpperA;refine List.map_congr_left λc _=>?_;have:∀n<256,Lib.upperB (a0b n)=upB (a0b n):=by decide+kernel
 have:=this c.toNat c.toNat_lt;rwa [a0e] at this
theorem uW (s:Bs):keepL (s.takeWhile partB)=isbnGo s:=(ve s).symm
theorem zh (s:Bs):∀c∈(isbnGo s).map upB,digitB c=true∨c=88:=by
 intro c a;obtain ⟨d,b,rfl⟩:=List.mem_map.1 a;have h:=kZ s d b;have:∀n<256,(digitB (a0b n)||xB (a0b n))=true->digitB (upB (a0b n))=true∨upB (a0b n)=88:=by decide+kernel
 have:=this d.toNat d.toNat_lt;rw [a0e] at this;exact this h
theorem xn (s:Bs):∀c∈isbnGo s,c.toNat<128:=by
 intro d a;have h:=kZ s d a;have:∀n<256,(digitB (a0b n)||xB (a0b n))=true->(a0b n).toNat<128:=by decide+kernel
 have:=this d.toNat d.toNat_lt;rw [a0e] at this;exact this h
theorem uq (s:Bs):s.take (partN s)=s.takeWhile partB:=(List.prefix_iff_eq_take.1 (a0i partB)).symm
theorem iM (s:Bs) (w:World) (hs:s.length<=1000000000):Calls Tryz.prog 180 #[S s] w λe w'=>e= .returned (.tuple #[S ((isbnR s).getD []), .bool (isbnR s).isSome])/\a0f w.heap.size w w':=by
 have HI:=a0a (sK s w hs);obtain ⟨p,X⟩:∃p,s.takeWhile partB=p:=⟨_,rfl⟩;obtain ⟨u,N⟩:∃u,(isbnGo s).map upB=u:=⟨_,rfl⟩;have V:keepL p=isbnGo s:=by rw [<- X];exact uW s
 have Y:p.length<=1000000000:=by rw [<- X];exact a0d (a0i _).length_le hs
 have HP:=a0a X;have b0:Hid (∀c∈u,digitB c=true∨c=88):=by rw [<- N];exact zh s
 have aT:Hid (∀W,Calls Tryz.prog 236 #[S (keepL p)] W λe w'=>e= .returned (S u)/\a0f W.heap.size W w'):=λW=>by have y:(keepL p).length<=1000000000:=a0d (a0j _ _) Y;refine (strings_ToUpper_ascii ⟨(keepL p).toArray⟩ W (by show (keepL p).length<=_;omega) (λj b hb=>xn s b (by rw [<- V];exact List.mem_of_getElem? hb))).mono ?_;rintro e w' ⟨rfl,hb⟩;refine ⟨?_,hb⟩;show Ending.returned (S (Lib.toUpperA (keepL p)))=_;rw [wg,V,N]
 have hR:eY u=isbnR s:=by rw [<- N];exact Av s
 obtain ⟨r,hr⟩:∃r,isbnR s=r:=⟨_,rfl⟩;rw [hr] at hR ⊢;have M:=a0a hR;have aC:=a0a Y;have bv:u.length<=1000000000:=by rw [<- N,List.length_map, <- V];exact a0d (a0j _ _) Y
 have ac:=a0a (uq s);have aS:=a0a (wP s);obtain ⟨B,a5⟩:∃B,r.getD []=B:=⟨_,rfl⟩;obtain ⟨C,a6⟩:∃C,r.isSome=C:=⟨_,rfl⟩;rw [a5,a6];have G:=a0a a5;have H:=a0a a6;clear a5 a6;clear X N V hR hr Y;generalize hn:partN s=n at *;go_enter Tryz.func180,Tryz.ntmps180;go_upto_if 8 with (go_at_call 233;refine a0c HI.out ?_;rintro e w1 ⟨rfl,Q⟩)
 go_cut [0] from 4 to 11 (λv wx=>v=S p/\Hid (a0f w.heap.size w wx))
 case first=>
  have F:=a0a Q;by_cases hnl:n=s.length
  · have b4:S s=S p:=by rw [<- HP.out, <- ac.out,hnl,List.take_length]
    rw [if_pos hnl];clear Q hnl;go_wp2_with fail
    go_meet;exact ⟨b4,F⟩
  · have bc:(n:Int)<s.length:=by have:=aS.out;omega
    have bb:(0:Int)<=n:=by omega
    have bt:s.take n=p:=ac.trans HP.out;rw [if_neg hnl];clear Q hnl;go_wp2_with fail
    go_meet;exact ⟨rfl,F⟩
 case rest=>
  obtain ⟨rfl,F⟩:=hcut;clear Q;have hA:(wc.alloc (.cells #[S [32],S [],S [45],S []] 9)).heap[wc.heap.size]? =some (.cells #[S [32],S [],S [45],S []] 9 (0,0)):=World.alloc_heap_new wc _;have ax:a0f w.heap.size w (wc.alloc (.cells #[S [32],S [],S [45],S []] 9)):=F.alloc F.size _;have a7:=a0a (yJ _ _ hA);have O:=a0a ax;clear hA ax
  go_upto_region 5 with (first
   |(go_at_call 237;refine a0c a7.out ?_;rintro e w2 ⟨R,on,kk,cs,rfl,al,_,_,ao,ad,au⟩;have Z:Hid (a0f w.heap.size w w2):=btr O.out au O.out.size;have a8:Hid (w.heap.size<=R):=a0d O.out.size al;have a9:=a0a (pU R on kk cs p w2 ao ad aC.out);clear al ao ad au)
   |(go_at_call 238;refine a0c a9.out ?_;rintro e w3 ⟨rfl,ay⟩;have a0:Hid (a0f w.heap.size w w3):=Z.out.trans (ay.below (λk hk=>(by rw [hk];exact a8.out)) Z.out.size).1;clear ay)
   |(go_at_call 236;refine a0c (aT.out _) ?_;rintro e A ⟨rfl,av⟩;have x:Hid (a0f w.heap.size w A):=btr a0.out av a0.out.size;clear av))
  clear a7 a9 F O Z a0 a8;by_cases hl:u.length=10
  · have b3:((u.length:Int)==10)=true:=by simp [hl]
    have a2:=a0a (kL u A hl b0.out);obtain ⟨q,z⟩:∃q,(decide (tenSum 0 u%11=0)&&(u.take 9).all digitB)=q:=⟨_,rfl⟩;rw [z] at a2;have HQ:=a0a z;have HL:=a0a hl;clear z;cases q
    · have g:Hid (([]:Bs)=B/\false=C):=by
       have y:eY u=none:=by unfold eY;rw [if_neg (λh=>by have:=HQ.out;rw [decide_eq_true h.2.1,h.2.2] at this;cases this),if_neg (λh=>by have:=h.1;have:=HL.out;omega)]
       have t:none=r:=y.symm.trans M.out;subst t;exact ⟨G.out,H.out⟩
      have b9:((u.length:Int)==13)=false:=by simp [hl]
      clear hl;go_wp2_with (go_at_call 239;refine a0c a2.out ?_;rintro e E ⟨rfl,l⟩)
      have o:Hid (a0f w.heap.size w E):=btr x.out l x.size;clear l;go_region;go_wp2_with fail
      go_ret2;exact ⟨(by rw [<- g.out.1, <- g.out.2];rfl),o.out.drew⟩
    · have b5:u.length=10:=hl;obtain ⟨T,hT⟩:∃T,u.take 9=T:=⟨_,rfl⟩;have D:T.length=9:=by rw [<- hT,List.length_take];omega
      have a4:tenSum 0 u%11=0/\T.all digitB=true:=by have:=HQ.out;rw [hT] at this;simpa using this
      have P:Hid (∀W,Calls Tryz.prog 240 #[S ([57,55,56]++T++[48])] W λe w'=>e= .returned (.int .u8 (checkR ([57,55,56]++T)).toNat)/\a0f W.heap.size W w'):=λW=>by
       have e1:([57,55,56]++T++[48]).take 12=[57,55,56]++T:=by rw [List.take_append_of_le_length (by simp [D]),a0h (by simp [D])]
       have:=nj ([57,55,56]++T++[48]) W (by simp [D]) (by simp [D]) (by rw [e1];simp [a4.2];decide);have e2:checkR ([57,55,56]++T++[48])=checkR ([57,55,56]++T):=by unfold checkR;rw [e1,a0h (by simp [D])]
       rw [e2] at this;exact this
      have g:Hid (([57,55,56]++T++[checkR ([57,55,56]++T)])=B/\true=C):=by
       have y:eY u=some ([57,55,56]++T++[checkR ([57,55,56]++T)]):=by unfold eY;rw [hT,if_pos ⟨hl,a4⟩]
       have t:some _=r:=y.symm.trans M.out;subst t;exact ⟨G.out,H.out⟩
      have bk:¬9223372036854775807<3+T.length:=by omega
      have bs:¬9223372036854775807<T.length+1+1+1+1:=by omega
      have b6:=a0a D;clear b5 a4 D;go_wp2_with (first |(go_at_call 239;refine a0c a2.out ?_;rintro e E ⟨rfl,l⟩)|(go_at_call 240;refine a0c (P.out _) ?_;rintro e w6 ⟨rfl,f⟩))
      have J:Hid (a0f w.heap.size w w6):=btr (btr x.out l x.size) f (a0d x.size l.size);clear l f;go_ret2;exact ⟨(by rw [<- g.out.1, <- g.out.2];rfl),J.out.alloc J.out.size _⟩
  · have b3:((u.length:Int)==10)=false:=by simp;omega
    have a1:=a0a hl;clear hl;by_cases h13:u.length=13
    · have b2:((u.length:Int)==13)=true:=by simp [h13]
      have HD:=a0a (λW=>dC u W (by omega));obtain ⟨q,z⟩:∃q,u.all digitB=q:=⟨_,rfl⟩;rw [z] at HD;cases q
      · have g:Hid (([]:Bs)=B/\false=C):=by
         have y:eY u=none:=by unfold eY;rw [if_neg (λh=>a1.out h.1),if_neg (λh=>by have:=h.2.1;rw [z] at this;cases this)]
         have t:none=r:=y.symm.trans M.out;subst t;exact ⟨G.out,H.out⟩
        clear h13 z;go_wp2_with fail
        have l:a0f A.heap.size A A.drew:=(Below.refl _ A).drew;refine wT (λW=>a0f A.heap.size A W) 14 ?_;refine dO 0 rfl λK a=>?_;go_simp;refine a _ _ (λ_=>l) ?_;clear a K;refine dO 1 rfl λK a=>?_;go_simp;refine a _ _ (λ_=>l) ?_;clear a K;refine dO 2 rfl λK a=>?_;go_simp;refine a _ _ (λ_=>l) ?_;clear a K;refine dO 3 rfl λK a=>?_;go_simp;refine a _ _ (λ_=>l) ?_;clear a K;refine lJ (i:=4) rfl (by kernel_rfl) (by rfl) (λK a=>?_);go_simp;refine a _ _ (λ_=>l) ?_;clear a K;refine lJ (i:=5) rfl (by kernel_rfl) (by rfl) (λK a=>?_);go_simp;go_at_call 230;refine a0c (HD _) ?_;rintro e E ⟨rfl,b1⟩;have f:a0f A.heap.size A E:=btr l b1 l.size;have o:Hid (a0f w.heap.size w E):=btr x.out f x.size;refine a _ _ (λ_=>f) ?_;clear a K;go_simp;refine dO 6 rfl λK a=>?_;go_simp;refine a _ _ (λ_=>f) ?_;clear a K;refine dO 7 rfl λK a=>?_;go_simp;refine a _ _ (λ_=>f) ?_;clear a K;refine ff (i:=8) (j:=10) rfl rfl (by kernel_rfl) (by rfl) (by rfl) f ?_ ?_
        · (try go_simp)
          refine ff (i:=9) (j:=10) rfl rfl (by kernel_rfl) (by rfl) (by rfl) f ?_ ?_
          · (try go_simp)
            refine ca (i:=10) rfl (by kernel_rfl) (by rfl) f ?_;(try go_simp)
            refine ca (i:=11) rfl (by kernel_rfl) (by rfl) f ?_;(try go_simp)
            refine ca (i:=12) rfl (by kernel_rfl) (by rfl) f ?_;(try go_simp)
            refine tk 13 ?_ rfl f ?_ ?_;rotate_left;intro w' h;go_simp;rfl;try go_simp
            refine dO 14 rfl λK a=>?_;go_simp;refine a _ _ (λh=>absurd rfl h) ?_;clear a K;refine dN ?_;go_wp2_with fail
            go_ret2;exact ⟨(by rw [<- g.out.1, <- g.out.2];rfl),o.out⟩
          · (try go_simp)
            refine ff (i:=9) (j:=11) rfl rfl (by kernel_rfl) (by rfl) (by rfl) f ?_ ?_
            · (try go_simp)
              refine ca (i:=11) rfl (by kernel_rfl) (by rfl) f ?_;(try go_simp)
              refine ca (i:=12) rfl (by kernel_rfl) (by rfl) f ?_;(try go_simp)
              refine tk 13 ?_ rfl f ?_ ?_;rotate_left;intro w' h;go_simp;rfl;try go_simp
              refine dO 14 rfl λK a=>?_;go_simp;refine a _ _ (λh=>absurd rfl h) ?_;clear a K;refine dN ?_;go_wp2_with fail
              go_ret2;exact ⟨(by rw [<- g.out.1, <- g.out.2];rfl),o.out⟩
            · (try go_simp)
              refine ca (i:=9) rfl (by kernel_rfl) (by rfl) f ?_;(try go_simp)
              refine ca (i:=12) rfl (by kernel_rfl) (by rfl) f ?_;(try go_simp)
              refine tk 13 ?_ rfl f ?_ ?_;rotate_left;intro w' h;go_simp;rfl;try go_simp
              refine dO 14 rfl λK a=>?_;go_simp;refine a _ _ (λh=>absurd rfl h) ?_;clear a K;refine dN ?_;go_wp2_with fail
              go_ret2;exact ⟨(by rw [<- g.out.1, <- g.out.2];rfl),o.out⟩
        · (try go_simp)
          refine ff (i:=8) (j:=11) rfl rfl (by kernel_rfl) (by rfl) (by rfl) f ?_ ?_
          · (try go_simp)
            refine ff (i:=9) (j:=11) rfl rfl (by kernel_rfl) (by rfl) (by rfl) f ?_ ?_
            · (try go_simp)
              refine ca (i:=11) rfl (by kernel_rfl) (by rfl) f ?_;(try go_simp)
              refine ca (i:=12) rfl (by kernel_rfl) (by rfl) f ?_;(try go_simp)
              refine tk 13 ?_ rfl f ?_ ?_;rotate_left;intro w' h;go_simp;rfl;try go_simp
              refine dO 14 rfl λK a=>?_;go_simp;refine a _ _ (λh=>absurd rfl h) ?_;clear a K;refine dN ?_;go_wp2_with fail
              go_ret2;exact ⟨(by rw [<- g.out.1, <- g.out.2];rfl),o.out⟩
            · (try go_simp)
              refine ca (i:=9) rfl (by kernel_rfl) (by rfl) f ?_;(try go_simp)
              refine ca (i:=12) rfl (by kernel_rfl) (by rfl) f ?_;(try go_simp)
              refine tk 13 ?_ rfl f ?_ ?_;rotate_left;intro w' h;go_simp;rfl;try go_simp
              refine dO 14 rfl λK a=>?_;go_simp;refine a _ _ (λh=>absurd rfl h) ?_;clear a K;refine dN ?_;go_wp2_with fail
              go_ret2;exact ⟨(by rw [<- g.out.1, <- g.out.2];rfl),o.out⟩
          · (try go_simp)
            refine ca (i:=8) rfl (by kernel_rfl) (by rfl) f ?_;(try go_simp)
            refine ca (i:=9) rfl (by kernel_rfl) (by rfl) f ?_;(try go_simp)
            refine ca (i:=12) rfl (by kernel_rfl) (by rfl) f ?_;(try go_simp)
            refine tk 13 ?_ rfl f ?_ ?_;rotate_left;intro w' h;go_simp;rfl;try go_simp
            refine dO 14 rfl λK a=>?_;go_simp;refine a _ _ (λh=>absurd rfl h) ?_;clear a K;refine dN ?_;go_wp2_with fail
            go_ret2;exact ⟨(by rw [<- g.out.1, <- g.out.2];rfl),o.out⟩
      · have P:=a0a (λW=>nj u W (by omega) (by omega) (by refine List.all_eq_true.2 λc I=>List.all_eq_true.1 z c (List.mem_of_mem_take I)))
        obtain ⟨c,I⟩:∃c,checkR u=c:=⟨_,rfl⟩;obtain ⟨d,U⟩:∃d,u.getD 12 0=d:=⟨_,rfl⟩;have hd:∀h:12<u.length,u[12]'h=d:=λh=>by rw [<- U];simp [List.getD_eq_getElem?_getD,h]
        rw [I] at P;have b7:12<u.length:=by omega
        have b8:(12:Int)<u.length:=by omega
        obtain ⟨m,hm⟩:∃m:Bool,((c.toNat:Int)==(d.toNat:Int))=m:=⟨_,rfl⟩;have a3:m=decide (c=d):=by rw [<- hm,Bool.eq_iff_iff];simp only [beq_iff_eq,decide_eq_true_eq];exact ⟨λh=>UInt8.toNat_inj.1 (by omega),λh=>by rw [h]⟩
        have hF:(if m then some u else none)=r:=by
         have y:eY u=if m then some u else none:=by
          unfold eY;rw [if_neg (λh=>a1.out h.1)];by_cases hcd:c=d
          · rw [if_pos ⟨h13,z,by rw [I,U,hcd]⟩,a3,decide_eq_true hcd];rfl
          · rw [if_neg (λh=>hcd (by rw [<- I, <- U];exact h.2.2)),a3,decide_eq_false hcd];rfl
         rw [<- y,M.out]
        have g:=a0a hF;clear hF a3 U I h13 z;go_wp2_with fail
        go_region_with (first |(go_at_call 230;refine a0c (HD.out _) ?_;rintro e E ⟨rfl,l⟩;have o:Hid (a0f w.heap.size w E):=btr x.out.drew l x.out.size;clear l)|(go_at_call 240;refine a0c (P.out _) ?_;rintro e w6 ⟨rfl,f⟩;have J:Hid (a0f w.heap.size w w6):=btr o.out f o.out.size;clear f))
        all_goals (
         cases m
         · have L:Hid (([]:Bs)=B/\false=C):=by
            have t:none=r:=g.out
            subst t
            exact ⟨G.out,H.out⟩
           go_wp2_with fail
           go_ret2
           exact ⟨(by rw [<- L.out.1, <- L.out.2];rfl),J.out⟩
         · have L:Hid (u=B/\true=C):=by
            have t:some u=r:=g.out
            subst t
            exact ⟨G.out,H.out⟩
           go_wp2_with fail
           go_ret2
           exact ⟨(by rw [<- L.out.1, <- L.out.2];rfl),J.out⟩)
    · have b2:((u.length:Int)==13)=false:=by simp;omega
      have g:Hid (([]:Bs)=B/\false=C):=by
       have y:eY u=none:=by unfold eY;rw [if_neg (λh=>a1.out h.1),if_neg (λh=>h13 h.1)]
       have t:none=r:=y.symm.trans M.out;subst t;exact ⟨G.out,H.out⟩
      clear h13;go_wp2_with fail
      go_region;go_wp2_with fail
      go_ret2;exact ⟨(by rw [<- g.out.1, <- g.out.2];rfl),x.out.drew⟩
end
end Go.Proofs.YtjcimanddakkaaaGreatDoor
