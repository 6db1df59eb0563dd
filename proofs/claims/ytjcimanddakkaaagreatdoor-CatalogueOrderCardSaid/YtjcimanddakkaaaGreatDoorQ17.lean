/- Lemmas. -/
import Derived.Test.YtjcimanddakkaaaGreatDoorQ13
import Derived.Test.YtjcimanddakkaaaGreatDoorQ16
set_option maxRecDepth 100000
set_option maxHeartbeats 8000000
namespace Go.Proofs.YtjcimanddakkaaaGreatDoor
open _root_.Option renaming some→X,none→Y
open Go.Ending renaming returned→bD
open Go.Value renaming bool→bO,int→J
open Go.Lib renaming hid→Z
open Go.Obj renaming cells→bT
open Go.IntKind renaming u8→bY
open Tryz
open _root_.UInt8 renaming ofNat→ca,ofNat_toNat→cd
open Go.Calls renaming mono→cb
open _root_.Nat renaming le_trans→cc
open Go.Region renaming wanted→cg
open _root_.List renaming take_of_length_le→ch,takeWhile_prefix→cl,length_filter_le→cm
section
open Go.RowKit Go.Maps Go.Shelf
theorem co {P:Program} {d:Region.Mode} {b:Array Oper} {Q:Exit->Act->World->Prop} {S:World->Prop} {z i:Nat} {o:Oper} {n:Nat} {c:Array Bool} {a:Act} {w:World} (m:b[i]? =X o) (f:Region.ready d b c=[i]) (l:cg o (yielded b a.tmps)=false) (k:S w)
 (h:anyT P d b Q S z n (c.setIfInBounds i true) (a.put o.dst undef) w):anyT P d b Q S z (n+1) c a w:=by
 refine ⟨λg=>absurd g (by rw [f];simp),λj e=>?_⟩;rw [f] at e;obtain rfl:j=i:=by simpa using e
 unfold wpOp;rw [m];simp only [l];exact ⟨λ_=>k,h⟩
theorem fP {P:Program} {d:Region.Mode} {b:Array Oper} {Q:Exit->Act->World->Prop} {S:World->Prop} {z i j:Nat} {o f:Oper} {n:Nat} {c:Array Bool} {a:Act} {w:World} (s:b[i]? =X o) (t:b[j]? =X f) (l:Region.ready d b c=[i,j]) (q:cg o (yielded b a.tmps)=false) (r:cg f (yielded b a.tmps)=false) (g:S w)
 (h:anyT P d b Q S z n (c.setIfInBounds i true) (a.put o.dst undef) w) (m:anyT P d b Q S z n (c.setIfInBounds j true) (a.put f.dst undef) w):anyT P d b Q S z (n+1) c a w:=by
 refine ⟨λp=>absurd p (by rw [l];simp),λk e=>?_⟩;rw [l] at e;simp only [List.mem_cons,List.not_mem_nil,or_false] at e;rcases e with rfl|rfl
 · unfold wpOp;rw [s];simp only [q];exact ⟨λ_=>g,h⟩
 · unfold wpOp;rw [t];simp only [r];exact ⟨λ_=>g,m⟩
theorem yk (l:Bs):Lib.toUpperA l=l.map upB:=by
 unfold Lib.toUpperA;refine List.map_congr_left λc _=>?_;have:∀n<256,Lib.upperB (ca n)=upB (ca n):=by decide+kernel
 have:=this c.toNat c.toNat_lt;rwa [cd] at this
theorem wZ (s:Bs):keepL (s.takeWhile partB)=isbnGo s:=(xi s).symm
theorem Bf (s:Bs):∀c∈(isbnGo s).map upB,digitB c=true∨c=88:=by
 intro c a;obtain ⟨d,b,rfl⟩:=List.mem_map.1 a;have h:=mq s d b;have:∀n<256,(digitB (ca n)||xB (ca n))=true->digitB (upB (ca n))=true∨upB (ca n)=88:=by decide+kernel
 have:=this d.toNat d.toNat_lt;rw [cd] at this;exact this h
theorem zh (s:Bs):∀c∈isbnGo s,c.toNat<128:=by
 intro d a;have h:=mq s d a;have:∀n<256,(digitB (ca n)||xB (ca n))=true->(ca n).toNat<128:=by decide+kernel
 have:=this d.toNat d.toNat_lt;rw [cd] at this;exact this h
theorem wg (s:Bs):s.take (partN s)=s.takeWhile partB:=(List.prefix_iff_eq_take.1 (cl partB)).symm
theorem jE (s:Bs) (w:World) (hs:s.length<=1000000000):Calls prog 180 #[S s] w λe w'=>e=bD (.tuple #[S ((isbnR s).getD []),bO (isbnR s).isSome])/\Bw w w':=by
 have HI:=Z (uz s w hs);obtain ⟨p,hp⟩:=Qe (s.takeWhile partB);obtain ⟨u,N⟩:=Qe ((isbnGo s).map upB);have a0:keepL p=isbnGo s:=by rw [<- hp];exact wZ s
 have a1:p.length<=1000000000:=by rw [<- hp];exact cc (cl _).length_le hs
 have HP:=Z hp;have b3:Hid (∀c∈u,digitB c=true∨c=88):=by rw [<- N];exact Bf s
 have b2:Hid (∀W,Calls prog 236 #[S (keepL p)] W λe w'=>e=bD (S u)/\Bw W w'):=λW=>by have h1:(keepL p).length<=1000000000:=cc (cm _ _) a1;refine (strings_ToUpper_ascii ⟨(keepL p).toArray⟩ W (by show (keepL p).length<=_;omega) (λj b hb=>zh s b (by rw [<- a0];exact List.mem_of_getElem? hb))).mono ?_;rintro e w' ⟨rfl,hb⟩;refine ⟨?_,hb⟩;show Ending.returned (S (Lib.toUpperA (keepL p)))=_;rw [yk,a0,N]
 have hR:fH u=isbnR s:=by rw [<- N];exact Cw s
 obtain ⟨r,hr⟩:=Qe (isbnR s);rw [hr] at hR ⊢;have M:=Z hR;have b0:=Z a1;have bB:u.length<=1000000000:=by rw [<- N,List.length_map, <- a0];exact cc (cm _ _) a1
 have ao:=Z (wg s);have b1:=Z (yK s);obtain ⟨z,a8⟩:=Qe (r.getD []);obtain ⟨A,a9⟩:=Qe r.isSome;rw [a8,a9];have F:=Z a8;have G:=Z a9;clear a8 a9;clear hp N a0 hR hr a1;generalize hn:partN s=n at *;go_enter func180,ntmps180;go_upto_if 8 with (go_at_call 233;refine cb HI.o ?_;rintro e w1 ⟨rfl,Q⟩)
 go_cut [0] from 4 to 11 (λv wx=>v=S p/\Hid (Bw w wx))
 case first=>
  have E:=Z Q;by_cases hnl:n=s.length
  · have b7:S s=S p:=by rw [<- HP.o, <- ao.o,hnl,List.take_length]
    rw [if_pos hnl];clear Q hnl;go_wp2_with fail
    go_meet;exact ⟨b7,E⟩
  · have bs:(n:Int)<s.length:=by have:=b1.o;omega
    have bp:(0:Int)<=n:=by omega
    have bA:s.take n=p:=ao.trans HP.o;rw [if_neg hnl];clear Q hnl;go_wp2_with fail
    go_meet;exact ⟨rfl,E⟩
 case rest=>
  obtain ⟨rfl,E⟩:=hcut;clear Q;have hA:(wc.alloc (bT #[S [32],S [],S [45],S []] 9)).heap[wc.heap.size]? =X (bT #[S [32],S [],S [45],S []] 9 (0,0)):=World.alloc_heap_new wc _;have aS:Bw w (wc.alloc (bT #[S [32],S [],S [45],S []] 9)):=E.alloc E.size _;have ac:=Z (AO _ _ hA);have O:=Z aS;clear hA aS
  go_upto_region 5 with (first
   |(go_at_call 237;refine cb ac.o ?_;rintro e w2 ⟨R,on,kk,cs,rfl,av,_,_,ax,au,ay⟩;have a2:Hid (Bw w w2):=btr O.o ay O.o.size;have ad:Hid (w.heap.size<=R):=cc O.o.size av;have al:=Z (rE R on kk cs p w2 ax au b0.o);clear av ax au ay)
   |(go_at_call 238;refine cb al.o ?_;rintro e w3 ⟨rfl,aT⟩;have a3:Hid (Bw w w3):=a2.o.trans (aT.below (λk hk=>(by rw [hk];exact ad.o)) a2.o.size).1;clear aT)
   |(go_at_call 236;refine cb (b2.o _) ?_;rintro e C ⟨rfl,aC⟩;have x:Hid (Bw w C):=btr a3.o aC a3.o.size;clear aC))
  clear ac al E O a2 a3 ad;by_cases hl:u.length=10
  · have b6:((u.length:Int)==10)=true:=by simp [hl]
    have a5:=Z (lV u C hl b3.o);obtain ⟨q,y⟩:=Qe ((decide (tenSum 0 u%11=0)&&(u.take 9).all digitB));rw [y] at a5;have HQ:=Z y;have HL:=Z hl;clear y;cases q
    · have g:Hid (([]:Bs)=z/\false=A):=by
       have h1:fH u=Y:=by unfold fH;rw [if_neg (λh=>by have:=HQ.o;rw [decide_eq_true h.2.1,h.2.2] at this;cases this),if_neg (λh=>by have:=h.1;have:=HL.o;omega)]
       have t:Y=r:=h1.symm.trans M.o;subst t;exact ⟨F.o,G.o⟩
      have bk:((u.length:Int)==13)=false:=by simp [hl]
      clear hl;go_wp2_with (go_at_call 239;refine cb a5.o ?_;rintro e D ⟨rfl,l⟩)
      have o:Hid (Bw w D):=btr x.o l x.size;clear l;go_region;go_wp2_with fail
      go_ret2;exact ⟨(by rw [<- g.o.1, <- g.o.2];rfl),o.o.drew⟩
    · have b8:u.length=10:=hl;obtain ⟨T,hT⟩:=Qe (u.take 9);have B:T.length=9:=by rw [<- hT,List.length_take];omega
      have a7:tenSum 0 u%11=0/\T.all digitB=true:=by have:=HQ.o;rw [hT] at this;simpa using this
      have P:Hid (∀W,Calls prog 240 #[S ([57,55,56]++T++[48])] W λe w'=>e=bD (J bY (checkR ([57,55,56]++T)).toNat)/\Bw W w'):=λW=>by
       have e1:([57,55,56]++T++[48]).take 12=[57,55,56]++T:=by rw [List.take_append_of_le_length (by simp [B]),ch (by simp [B])]
       have:=oH ([57,55,56]++T++[48]) W (by simp [B]) (by simp [B]) (by rw [e1];simp [a7.2];decide);have e2:checkR ([57,55,56]++T++[48])=checkR ([57,55,56]++T):=by unfold checkR;rw [e1,ch (by simp [B])]
       rw [e2] at this;exact this
      have g:Hid (([57,55,56]++T++[checkR ([57,55,56]++T)])=z/\true=A):=by
       have h1:fH u=X ([57,55,56]++T++[checkR ([57,55,56]++T)]):=by unfold fH;rw [hT,if_pos ⟨hl,a7⟩]
       have t:X _=r:=h1.symm.trans M.o;subst t;exact ⟨F.o,G.o⟩
      have bt:¬9223372036854775807<3+T.length:=by omega
      have bw:¬9223372036854775807<T.length+1+1+1+1:=by omega
      have b9:=Z B;clear b8 a7 B;go_wp2_with (first |(go_at_call 239;refine cb a5.o ?_;rintro e D ⟨rfl,l⟩)|(go_at_call 240;refine cb (P.o _) ?_;rintro e w6 ⟨rfl,f⟩))
      have I:Hid (Bw w w6):=btr (btr x.o l x.size) f (cc x.size l.size);clear l f;go_ret2;exact ⟨(by rw [<- g.o.1, <- g.o.2];rfl),I.o.alloc I.o.size _⟩
  · have b6:((u.length:Int)==10)=false:=by simp;omega
    have a4:=Z hl;clear hl;by_cases h13:u.length=13
    · have b5:((u.length:Int)==13)=true:=by simp [h13]
      have HD:=Z (λW=>dP u W (by omega));obtain ⟨q,y⟩:=Qe (u.all digitB);rw [y] at HD;cases q
      · have g:Hid (([]:Bs)=z/\false=A):=by
         have h1:fH u=Y:=by unfold fH;rw [if_neg (λh=>a4.o h.1),if_neg (λh=>by have:=h.2.1;rw [y] at this;cases this)]
         have t:Y=r:=h1.symm.trans M.o;subst t;exact ⟨F.o,G.o⟩
        clear h13 y;go_wp2_with fail
        have l:Bw C C.drew:=(Below.refl _ C).drew;refine Wb C 14 ?_;refine Ds 0 l ?_;refine Ds 1 l ?_;refine Ds 2 l ?_;refine Ds 3 l ?_;refine mR (i:=4) rfl (by kernel_rfl) (by rfl) (λK a=>?_);go_simp;refine a _ _ (λ_=>l) ?_;clear a K;refine mR (i:=5) rfl (by kernel_rfl) (by rfl) (λK a=>?_);go_simp;go_at_call 230;refine cb (HD _) ?_;rintro e D ⟨rfl,b4⟩;have f:Bw C D:=btr l b4 l.size;have o:Hid (Bw w D):=btr x.o f x.size;refine a _ _ (λ_=>f) ?_;clear a K;go_simp;refine Ds 6 f ?_;refine Ds 7 f ?_;refine fP (i:=8) (j:=10) rfl rfl (by kernel_rfl) (by rfl) (by rfl) f ?_ ?_
        · (try go_simp)
          refine fP (i:=9) (j:=10) rfl rfl (by kernel_rfl) (by rfl) (by rfl) f ?_ ?_
          · (try go_simp)
            refine co (i:=10) rfl (by kernel_rfl) (by rfl) f ?_;(try go_simp)
            refine co (i:=11) rfl (by kernel_rfl) (by rfl) f ?_;(try go_simp)
            refine co (i:=12) rfl (by kernel_rfl) (by rfl) f ?_;(try go_simp)
            refine Qa [13] f ?_
            refine Dl 14 ?_;go_wp2_with fail
            go_ret2;exact ⟨(by rw [<- g.o.1, <- g.o.2];rfl),o.o⟩
          · (try go_simp)
            refine fP (i:=9) (j:=11) rfl rfl (by kernel_rfl) (by rfl) (by rfl) f ?_ ?_
            · (try go_simp)
              refine co (i:=11) rfl (by kernel_rfl) (by rfl) f ?_;(try go_simp)
              refine co (i:=12) rfl (by kernel_rfl) (by rfl) f ?_;(try go_simp)
              refine Qa [13] f ?_
              refine Dl 14 ?_;go_wp2_with fail
              go_ret2;exact ⟨(by rw [<- g.o.1, <- g.o.2];rfl),o.o⟩
            · (try go_simp)
              refine co (i:=9) rfl (by kernel_rfl) (by rfl) f ?_;(try go_simp)
              refine co (i:=12) rfl (by kernel_rfl) (by rfl) f ?_;(try go_simp)
              refine Qa [13] f ?_
              refine Dl 14 ?_;go_wp2_with fail
              go_ret2;exact ⟨(by rw [<- g.o.1, <- g.o.2];rfl),o.o⟩
        · (try go_simp)
          refine fP (i:=8) (j:=11) rfl rfl (by kernel_rfl) (by rfl) (by rfl) f ?_ ?_
          · (try go_simp)
            refine fP (i:=9) (j:=11) rfl rfl (by kernel_rfl) (by rfl) (by rfl) f ?_ ?_
            · (try go_simp)
              refine co (i:=11) rfl (by kernel_rfl) (by rfl) f ?_;(try go_simp)
              refine co (i:=12) rfl (by kernel_rfl) (by rfl) f ?_;(try go_simp)
              refine Qa [13] f ?_
              refine Dl 14 ?_;go_wp2_with fail
              go_ret2;exact ⟨(by rw [<- g.o.1, <- g.o.2];rfl),o.o⟩
            · (try go_simp)
              refine co (i:=9) rfl (by kernel_rfl) (by rfl) f ?_;(try go_simp)
              refine co (i:=12) rfl (by kernel_rfl) (by rfl) f ?_;(try go_simp)
              refine Qa [13] f ?_
              refine Dl 14 ?_;go_wp2_with fail
              go_ret2;exact ⟨(by rw [<- g.o.1, <- g.o.2];rfl),o.o⟩
          · (try go_simp)
            refine co (i:=8) rfl (by kernel_rfl) (by rfl) f ?_;(try go_simp)
            refine co (i:=9) rfl (by kernel_rfl) (by rfl) f ?_;(try go_simp)
            refine co (i:=12) rfl (by kernel_rfl) (by rfl) f ?_;(try go_simp)
            refine Qa [13] f ?_
            refine Dl 14 ?_;go_wp2_with fail
            go_ret2;exact ⟨(by rw [<- g.o.1, <- g.o.2];rfl),o.o⟩
      · have P:=Z (λW=>oH u W (by omega) (by omega) (by refine List.all_eq_true.2 λc H=>List.all_eq_true.1 y c (List.mem_of_mem_take H)))
        obtain ⟨c,H⟩:=Qe (checkR u);obtain ⟨d,V⟩:=Qe (u.getD 12 0);have hd:∀h:12<u.length,u[12]'h=d:=λh=>by rw [<- V];simp [List.getD_eq_getElem?_getD,h]
        rw [H] at P;have bb:12<u.length:=by omega
        have bc:(12:Int)<u.length:=by omega
        obtain ⟨m,hm⟩:∃m:Bool,((c.toNat:Int)==(d.toNat:Int))=m:=⟨_,rfl⟩;have a6:m=decide (c=d):=by rw [<- hm,Bool.eq_iff_iff];simp only [beq_iff_eq,decide_eq_true_eq];exact ⟨λh=>UInt8.toNat_inj.1 (by omega),λh=>by rw [h]⟩
        have hF:(if m then X u else Y)=r:=by
         have h1:fH u=if m then X u else Y:=by
          unfold fH;rw [if_neg (λh=>a4.o h.1)];by_cases hcd:c=d
          · rw [if_pos ⟨h13,y,by rw [H,V,hcd]⟩,a6,decide_eq_true hcd];rfl
          · rw [if_neg (λh=>hcd (by rw [<- H, <- V];exact h.2.2)),a6,decide_eq_false hcd];rfl
         rw [<- h1,M.o]
        have g:=Z hF;clear hF a6 V H h13 y;go_wp2_with fail
        go_region_with (first |(go_at_call 230;refine cb (HD.o _) ?_;rintro e D ⟨rfl,l⟩;have o:Hid (Bw w D):=btr x.o.drew l x.o.size;clear l)|(go_at_call 240;refine cb (P.o _) ?_;rintro e w6 ⟨rfl,f⟩;have I:Hid (Bw w w6):=btr o.o f o.o.size;clear f))
        all_goals (
         cases m
         · have L:Hid (([]:Bs)=z/\false=A):=by
            have t:Y=r:=g.o
            subst t
            exact ⟨F.o,G.o⟩
           go_wp2_with fail
           go_ret2
           exact ⟨(by rw [<- L.o.1, <- L.o.2];rfl),I.o⟩
         · have L:Hid (u=z/\true=A):=by
            have t:X u=r:=g.o
            subst t
            exact ⟨F.o,G.o⟩
           go_wp2_with fail
           go_ret2
           exact ⟨(by rw [<- L.o.1, <- L.o.2];rfl),I.o⟩)
    · have b5:((u.length:Int)==13)=false:=by simp;omega
      have g:Hid (([]:Bs)=z/\false=A):=by
       have h1:fH u=Y:=by unfold fH;rw [if_neg (λh=>a4.o h.1),if_neg (λh=>h13 h.1)]
       have t:Y=r:=h1.symm.trans M.o;subst t;exact ⟨F.o,G.o⟩
      clear h13;go_wp2_with fail
      go_region;go_wp2_with fail
      go_ret2;exact ⟨(by rw [<- g.o.1, <- g.o.2];rfl),x.o.drew⟩
end
end Go.Proofs.YtjcimanddakkaaaGreatDoor
