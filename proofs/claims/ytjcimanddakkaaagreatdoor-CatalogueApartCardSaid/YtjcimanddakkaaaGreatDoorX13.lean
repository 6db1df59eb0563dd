/- Lemmas. -/
import Derived.Test.YtjcimanddakkaaaGreatDoorX0
import Derived.Test.YtjcimanddakkaaaGreatDoorX3
import Derived.Test.YtjcimanddakkaaaGreatDoorX8
import Derived.Test.YtjcimanddakkaaaGreatDoorX12
set_option maxRecDepth 100000
set_option maxHeartbeats 8000000
namespace Go.Proofs.YtjcimanddakkaaaGreatDoor
open Go.Lib renaming hid→a0a
open _root_.Nat renaming le_refl→a0b,zero_le→a0e
open Go.Proofs.Tryz renaming prog→a0c
open Go.ChangeMaps renaming setBlock→a0d
open Go.RowKit.Below renaming refl→a0f,heap_setCell→a0k
open _root_.List renaming pairwise_map→a0g,length_map→a0j,filter_append→a0l,map_append→a0o,find?_cons→a0p
open Go.RowKit renaming Below→a0h
open Go.Calls renaming mono→a0i
open Go.Instr renaming lookup→a0m
open Go renaming World→a0n,Value→a0q
open Go.World renaming alloc_heap_new→a0r,size_setCell→a0t
open _root_.Option renaming isSome_none→a0s,getD_none→a0u
section
open Go.RowKit Go.Maps Go.Shelf
theorem lJ {P:Program} {e:Region.Mode} {b:Array Oper} {Q:Exit->Act->a0n->Prop} {S:a0n->Prop} {z i:Nat} {o:Oper} {n:Nat} {d:Array Bool} {a:Act} {w:a0n} (q:b[i]? =some o) (g:Region.ready e b d=[i]) (p:Region.wanted o (yielded b a.tmps)=true)
 (h:∀K:Act->a0n->Prop,(∀c w',(i≠z->S w')->anyT P e b Q S z n (d.setIfInBounds i true) c w'->K c w')->o.wp P a w K Q):anyT P e b Q S z (n+1) d a w:=by
 refine ⟨λk=>absurd k (by rw [g];simp),λj f=>?_⟩;rw [g] at f;obtain rfl:j=i:=by simpa using f
 unfold wpOp;rw [q];simp only [p,if_true];exact .inl (h _ λc w' l m=>⟨l,m⟩)
theorem jY {w:a0n} {b t:Nat} {x y z u v q:a0q} (h:w.heap[b]? =some (.cells #[x,y,z,u,v,q] t (0,0))):w.cell? ⟨b,0,none⟩=some x/\w.cell? ⟨b,1,none⟩=some y/\w.cell? ⟨b,2,none⟩=some z/\w.cell? ⟨b,3,none⟩=some u/\w.cell? ⟨b,4,none⟩=some v/\w.cell? ⟨b,5,none⟩=some q:=
 ⟨(aa h 0).trans rfl,(aa h 1).trans rfl,(aa h 2).trans rfl,(aa h 3).trans rfl,(aa h 4).trans rfl,(aa h 5).trans rfl⟩
theorem fB {K V:Type} [DecidableEq K] (l:List (K×V)) (f:K->V->a0q) (k:K):lookL (l.map λp=>(p.1,f p.1 p.2)) k=(findK l k).map (f k):=by
 induction l with
 |nil=>rfl
 |cons p l ih=>
  unfold findK at ih ⊢;rw [List.map_cons,cZ,a0p];by_cases h:p.1=k
  · rw [if_pos h];simp [h]
  · rw [if_neg h,ih];simp [h]
theorem qO {K V W:Type} [DecidableEq K] (l:List (K×(V×W))) (k:K):findK (l.map λp=>(p.1,p.2.1)) k=(findK l k).map (·.1):=by
 induction l with
 |nil=>rfl
 |cons p l ih=>
  unfold findK at ih ⊢;rw [List.map_cons,a0p,a0p];by_cases h:p.1=k
  · simp [h]
  · simp only [h,decide_false];exact ih
theorem t7 {K V:Type} [DecidableEq K] {l:List (K×V)} {k:K} {v:V} (h:findK l k=some v):(k,v)∈l:=by
 unfold findK at h;rw [Option.map_eq_some_iff] at h;obtain ⟨p,b,rfl⟩:=h;have c:=List.mem_of_find?_eq_some b;have a:=List.find?_some b;simp at a;rw [<- a];exact c
def putX (d:ar) (k:RK) (n:Int) (r:aB):Int:=aV (findK d.vs k).isSome (decide (((findK d.vs k).getD (0,⟨0,0,[]⟩)).1=n)&&decide (((findK d.vs k).getD (0,⟨0,0,[]⟩)).2=r)) ((findK d.vs k).getD (0,⟨0,0,[]⟩)).1 n d.vs.length
theorem put_eq (d:ar) (k:RK) (n:Int) (r:aB) (a:wrongR r=0):putC d k n r=if putX d k n r=0 then ({d with vs:=insL ltRK d.vs k (n,r)},0) else (d,putX d k n r):=by
 unfold putC putX;rw [if_neg (by simpa using a)];cases findK d.vs k with
 |none=>simp only [a0s,a0u];rw [kS (decide (0=n)&&decide ((⟨0,0,[]⟩:aB)=r))]
 |some m=>rfl
theorem aY.put {d:ar} (h:aY d) {k:RK} {n:Int} {r:aB} (b:rkOk k) (c:i64B n) (e:wrongR r=0) (f:putX d k n r=0):aY {d with vs:=insL ltRK d.vs k (n,r)}:=by
 refine ⟨⟨ew aL h.ok.vs _ _,h.ok.ds,h.ok.ps,h.ok.apart⟩,?_,h.dlen,h.plen,cG aL h.ok.vs h.right e,cG aL h.ok.vs h.vnum c,h.dnum,h.pnum,cG aL h.ok.vs h.vkey b,h.dkey,h.pkey⟩;exact oI aL h.ok.vs k (n,r) h.vlen λa=>fw f a
theorem eF {r:aB} (h:wrongR r=0):r.fields.length<=1000000/\(∀f∈r.fields,f.subs.length<=1000000)/\bL r.fields:=by
 have a:=wJ h;refine ⟨by have:=a.many;omega,λf b=>?_,by have:=a.many;omega,λf b=>by have:=a.long f b;omega⟩;have c:=a.long f b;have d:=cF f;omega
theorem iX.ins {F G:Nat->Prop} {w a:a0n} {m:Nat} {k:RK} {n:Int} {r:aB} {x:a0q} {lo b:Nat} {ps:List (RK×VX)} {d:VL} (e:ps.map (λp=>(p.1,p.2.1))=d) (f:∀p∈ps,dF F w p) (c:aw ltRK d)
 (i:∀q,F q->a.heap[q]? =w.heap[q]?) (u:w.heap.size<=a.heap.size) (g:∀q,F q->G q) (s:ai lo b a x r.fields) (h:b<=a.heap.size) (t:∀q,lo<=q->q<b->G q) (j:ak recB a m ((insL ltRK ps k ((n,r),x)).map λp=>(p.1,iz p.1 p.2))):
 iX G a (some m) (insL ltRK d k (n,r)):=by
 have o:aw ltRK ps:=by rw [<- e] at c;unfold aw at c ⊢;rw [a0g] at c;exact c
 refine ⟨insL ltRK ps k ((n,r),x),by rw [<- e];exact tX ltRK (λq:VX=>q.1) ps k ((n,r),x),j,?_⟩;refine cG aL o (λp l=>((f p l).step i u).wide g) ⟨lo,b,s,h,t⟩
theorem dG.put1 {F:Nat->Prop} {w j:a0n} {c a b e:Nat} {E:a0q} {d:ar} {G:Nat->Prop} {vs:VL} (h:dG F w c (some a) (some b) (some e) E d) (o:aq a w j) (l:∀k,F k->G k) (z:∀k,G k->k<w.heap.size)
 (C:iX (restF G c (some a) (some b) (some e)) j (some a) vs) (A:aY {d with vs:=vs}):
 dG G (j.setCell ⟨c,3,none⟩ (.pointer none)) c (some a) (some b) (some e) (.pointer none) {d with vs:=vs}:=by
 have v:c≠b:=λe=>(aj (show ak recB w b _ from h.ds) h.blk) e.symm;have s:c≠a:=λe=>by obtain ⟨ps,_,i,_⟩:=h.vs;exact (aj (show ak recB w a _ from i) h.blk) e.symm
 have x:c≠e:=λp=>(aj (show ak pairB w e _ from h.ps) h.blk) p.symm;rcases h.one with ⟨g,_⟩|⟨H,I,p,g,i,n,q,r,u⟩
 · cases g
 injection g with g;injection i with i;injection n with n
 subst g;subst i;subst n;have t:∀k,k≠c->k≠a->(j.setCell ⟨c,3,none⟩ (.pointer none)).heap[k]? =w.heap[k]? :=λk g i=>(a0k _ _ _ _ g).trans (o.block k i);have D:(j.setCell ⟨c,3,none⟩ (.pointer none)).heap.size=w.heap.size:=by rw [a0t,o.size]
 refine ⟨?_,C.step (λm f=>by injection f with f;subst f;exact a0k _ _ _ _ (Ne.symm s)) (λk B=>a0k _ _ _ _ B.2.1) (by rw [a0t];exact a0b _),?_,?_, .inl rfl,l _ h.fc,λm f=>l _ (h.f1 m f),λm f=>l _ (h.f2 m f),λm f=>l _ (h.f3 m f), .inr ⟨a,b,e,rfl,rfl,rfl,q,r,u⟩,λk y=>by rw [D];exact z k y,A⟩
 · exact an ((o.block c s).trans h.blk) 3 (.pointer none)
 · exact ak.block (show ak recB w b _ from h.ds) (t b (Ne.symm v) (Ne.symm q))
 · exact ak.block (show ak pairB w e _ from h.ps) (t e (Ne.symm x) (Ne.symm r))
theorem ag.own {F c:Nat->Prop} {w d e:a0n} {b:Nat} (s:ag F w c d) (a:aq b d e) (h:w.heap.size<=b):ag F w c e:=
 ⟨a.os.trans s.os,a.tape.trans s.tape,a.output.trans s.output,by rw [a.size];exact s.size,λk f g=>(a.block k (by omega)).trans (s.block k f g),s.new⟩
theorem ag.more {F b G:Nat->Prop} {w w':a0n} (s:ag F w b w') (h:∀k,G k->b k∨w.heap.size<=k):ag F w G w':=
 ⟨s.os,s.tape,s.output,s.size,s.block,λk c=>by
  rcases h k c with a|a
  · exact s.new k a
  · exact .inr a⟩
theorem sd (F:Nat->Prop) (w:a0n) (c:Nat) (d:ar) (h:bz F w c d) (k:RK) (n:Int) (r:aB) (x:a0q) (hk:rkOk k) (hn:i64B n) (lo hi:Nat) (hx:ai lo hi w x r.fields) (gp:hi<=w.heap.size) (hF:∀q,lo<=q->q<hi->¬F q) (g0:bL r.fields):
 Calls a0c 29 #[.pointer (some ⟨c,0,none⟩),jT k n r x] w λe w'=>e= .returned (.int .i64 (putC d k n r).2)/\∃A,bz A w' c (putC d k n r).1/\ag F w A w':=by
 have ad:=a0a (put_eq d k n r);have ds:Hid (wrongR r≠0->putC d k n r=(d,11)):=λhw=>by unfold putC;rw [if_pos hw]
 have bs:Hid (wrongR r=0->putX d k n r=0->aY {d with vs:=insL ltRK d.vs k (n,r)}):=by obtain ⟨_,_,_,_,h⟩:=h;exact λhr hx=>h.ok.put hk hn hr hx
 have aT:Hid (putX d k n r=aV (findK d.vs k).isSome (decide (((findK d.vs k).getD (0,⟨0,0,[]⟩)).1=n)&&decide (((findK d.vs k).getD (0,⟨0,0,[]⟩)).2=r)) ((findK d.vs k).getD (0,⟨0,0,[]⟩)).1 n d.vs.length):=rfl;have gb:Hid (wrongR r=0->r.fields.length<=1000000/\(∀f∈r.fields,f.subs.length<=1000000)/\bL r.fields):=eF;obtain ⟨m1,m2,m3,kn,h⟩:=h;obtain ⟨O,P,rfl⟩:=hx.shape;obtain ⟨W1,f0⟩:∃W1,w.alloc (.cells #[.int .i64 k.1, .int .i64 k.2, .int .i64 n, .int .u8 r.kind.toNat, .int .u8 r.level.toNat, .slice O r.fields.length P] 64)=W1:=⟨_,rfl⟩;have d5:a0h w.heap.size w W1:=by rw [<- f0];exact (a0f _ w).alloc (a0b _) _
 have hB:W1.heap[w.heap.size]? =some (.cells #[.int .i64 k.1, .int .i64 k.2, .int .i64 n, .int .u8 r.kind.toNat, .int .u8 r.level.toNat, .slice O r.fields.length P] 64 (0,0)):=by rw [<- f0];exact a0r w _
 have d1:Hid (W1.heap.size=w.heap.size+1):=by unfold Hid;rw [<- f0];simp
 have cu:ai lo hi W1 (.slice O r.fields.length P) r.fields:=hx.kept (λq _ g=>d5.block q (by omega))
 have HR:Hid (∀W,a0h W1.heap.size W1 W->Calls a0c 58 #[.agg #[.int .u8 r.kind.toNat, .int .u8 r.level.toNat, .slice O r.fields.length P]] W λe w'=>e= .returned (.bool (decide (wrongR r=0)))/\a0h W.heap.size W w'):=λW R=>
  wK r _ W ⟨_,rfl,(cu.kept (λq _ g=>R.block q (by have:=d1.out;omega))).mono (a0e _) (by have:=R.size;have:=d1.out;omega)⟩ g0
 have HM:=a0a (h.below d5);have gd:=a0a cu;have HB:=a0a hB;have cQ:=a0a d5;have g7:=a0a h.lt;have dy:Hid (hi<=w.heap.size):=gp;have g8:=a0a hF;obtain ⟨s,t⟩:=k;obtain ⟨l,lv,a⟩:=r;unfold jT;dsimp only at *;obtain ⟨b0,b1,b2,Z,b4,b5⟩:=jY hB;clear h d5 hB hx cu gp hF g0;by_cases hr:wrongR ⟨l,lv,a⟩=0
 · rw [decide_eq_true hr] at HR;have g9:=a0a hr;obtain ⟨f8,gn,g0⟩:=gb hr;have dx:=a0a gn;clear hr gb ds gn;have ad:=a0a (ad g9.out);have bs:=a0a (bs g9.out);go_enter Tryz.func29,Tryz.ntmps29;go_wp2_with (go_at_call 58;((with_reducible refine a0i (HR.out _ (a0f _ _)) ?_);rintro e B ⟨rfl,av⟩))
   have aS:=a0a (HM.below av);have d2:=(av.block _ (ae HB.out)).trans HB.out;have dc:Hid (a0h w.heap.size w B):=btr cQ.out av cQ.size;clear b0 b1 b2 Z b4 b5 HR
   obtain ⟨kk,I,r',x',th,e1,bt,ch,hj,ht⟩:∃(kk:RK) (I:Int) (r':aB) (x':a0q) (th:Bool),Hid (∀W,(∀m,m1=some m->W.heap[m]? =B.heap[m]?)->(a0m 113 (.map m1) (.agg #[.int .i64 s, .int .i64 t]) true).run a0c W= .ok (.tuple #[jT kk I r' x', .bool th]) W)/\
    Hid (putX d (s,t) n ⟨l,lv,a⟩=aV th (decide (I=n)&&decide (r'=⟨l,lv,a⟩)) I n d.vs.length)/\(∃cy bb,ai cy bb B x' r'.fields/\bb<=B.heap.size)/\r'.fields.length<=1000000/\(∀f∈r'.fields,f.subs.length<=1000000):=by
    obtain ⟨ps,q1,q2,q3⟩:=aS.vs
    have d6:∀W,(∀m,m1=some m->W.heap[m]? =B.heap[m]?)->(a0m 113 (.map m1) (.agg #[.int .i64 s, .int .i64 t]) true).run a0c W= .ok (.tuple #[((findK ps (s,t)).map (iz (s,t))).getD (.agg #[.int .i64 0, .int .i64 0, .int .i64 0, .int .u8 0, .int .u8 0, .slice none 0 0]), .bool ((findK ps (s,t)).map (iz (s,t))).isSome]) W:=λW hW=>by
     have:=cj.look_ok (w:=W) (q2.block hW) Tryz.underlying113 ki (s,t) hk
     rw [fB] at this
     exact this
    have ha:findK d.vs (s,t)=(findK ps (s,t)).map (·.1):=by rw [<- q1];exact qO ps (s,t)
    rw [ha] at aT
    cases hf:findK ps (s,t) with
    |none=>
     rw [hf] at d6 aT
     exact ⟨(0,0),0,⟨0,0,[]⟩, .slice none 0 0,false,d6,aT,⟨0,0,⟨[],rfl,(by intro p hp;cases hp),none,0,rfl,λh=>absurd rfl h⟩,a0e _⟩,a0e _,(by intro f hf;cases hf)⟩
    |some v=>
     rw [hf] at d6 aT
     obtain ⟨⟨I,r'⟩,x'⟩:=v
     have hm:=t7 hf
     obtain ⟨cy,bb,g1,g2,_⟩:=q3 _ hm
     have hg:((s,t),(I,r'))∈d.vs:=by rw [<- q1];exact List.mem_map.2 ⟨_,hm,rfl⟩
     obtain ⟨s1,s2,_⟩:=eF (aS.ok.right _ hg)
     exact ⟨(s,t),I,r',x',true,d6,aT,⟨cy,bb,g1,g2⟩,s1,s2⟩
   obtain ⟨cy,bb,ch,hc⟩:=ch;obtain ⟨cz,cP,rfl⟩:=ch.shape;obtain ⟨gt,gx⟩:=kk;obtain ⟨bv,bw,au⟩:=r';unfold jT at e1;dsimp only at *;obtain ⟨b0,b1,b2,Z,b4,b5⟩:=jY d2;have T:B.drew.cell? ⟨c,0,none⟩=some (.map m1)/\B.drew.cell? ⟨w.heap.size,0,none⟩=some (.int .i64 s)/\B.drew.cell? ⟨w.heap.size,1,none⟩=some (.int .i64 t)/\(∀m,m1=some m->B.drew.heap[m]? =B.heap[m]?):=⟨(aa aS.blk 0).trans rfl,b0,b1,λ_ _=>rfl⟩;have dB:Hid (∀W,a0h B.heap.size B W->W.cell? ⟨c,0,none⟩=some (.map m1)/\W.cell? ⟨w.heap.size,0,none⟩=some (.int .i64 s)/\W.cell? ⟨w.heap.size,1,none⟩=some (.int .i64 t)/\(∀m,m1=some m->W.heap[m]? =B.heap[m]?)):=λW R=>⟨fd R _ _ T.1,fd R _ _ T.2.1,fd R _ _ T.2.2.1,λm hm=>R.block m (aS.lt m (aS.f1 m hm))⟩;clear b0 b1 b2 Z b4 b5;refine wT (λW=>W.cell? ⟨c,0,none⟩=some (.map m1)/\W.cell? ⟨w.heap.size,0,none⟩=some (.int .i64 s)/\W.cell? ⟨w.heap.size,1,none⟩=some (.int .i64 t)/\(∀m,m1=some m->W.heap[m]? =B.heap[m]?)) 12 ?_;have C:=tkL [0,4,1,5,2,3];repeat (refine tkI C ?_ rfl T ?_ ?_;rotate_left;intro w' h;obtain ⟨h0,J,h2,h3⟩:=h;go_simp;rfl;(try go_simp);replace C:=tkO C)
   clear C;refine tk 6 ?_ rfl T ?_ ?_;rotate_left;intro w' h;obtain ⟨h0,J,h2,h3⟩:=h;have hl:=e1 w' h3;go_simp;rfl;try go_simp
   have C:=tkL [7,8,9];repeat (refine tkI C ?_ rfl T ?_ ?_;rotate_left;intro w' h;obtain ⟨h0,J,h2,h3⟩:=h;go_simp;rfl;(try go_simp);replace C:=tkO C)
   clear C;refine dO 10 rfl λK b=>?_;go_simp;have gi:∀o,a0h B.heap.size B (B.drew.alloc o):=λo=>(a0f _ B).drew.alloc (a0b _) o;refine b _ _ (λ_=>dB _ (gi _)) ?_;clear b K;refine dO 11 rfl λK b=>?_;go_simp;have f6:∀o,a0h B.heap.size B (B.alloc o).drew:=λo=>((a0f _ B).alloc (a0b _) o).drew;refine b _ _ (λ_=>dB _ (f6 _)) ?_;clear b K;refine dO 12 rfl λK b=>?_;go_simp;refine b _ _ (λh=>absurd rfl h) ?_;clear b K;refine dN ?_;obtain ⟨H,c4⟩:∃H,(B.alloc (.cells #[.int .i64 gt, .int .i64 gx, .int .i64 I, .int .u8 bv.toNat, .int .u8 bw.toNat, .slice cz au.length cP] 64)).drew=H:=⟨_,rfl⟩;have d4:H.heap[B.heap.size]? =some (.cells #[.int .i64 gt, .int .i64 gx, .int .i64 I, .int .u8 bv.toNat, .int .u8 bw.toNat, .slice cz au.length cP] 64 (0,0)):=by rw [<- c4];exact a0r B _
   have b8:a0h B.heap.size B H:=by rw [<- c4];exact f6 _
   have hz:Hid (H.heap.size=B.heap.size+1):=by unfold Hid;rw [<- c4];show (B.alloc _).heap.size=_;simp
   have ao:=a0a (aS.below b8);have d3:=(b8.block _ (ae d2)).trans d2;have a6:Hid (a0h w.heap.size w H):=btr dc.out b8 dc.size;have gz:Hid (ai cy bb H (.slice cz au.length cP) au):=ch.kept (λq _ g=>b8.block q (by omega));have e6:Hid (ai lo hi H (.slice O a.length P) a):=gd.out.kept (λq _ g=>(b8.block q (by have:=av.size;have:=d1.out;have:=dy.out;omega)).trans (av.block q (by have:=d1.out;have:=dy.out;omega)));have al:Hid (bb<=H.heap.size/\hi<=H.heap.size):=by have:=a6.out.size;have:=dy.out;have:=b8.size;exact ⟨by omega,by omega⟩
   rw [c4];clear T dB gi f6 c4 b8 e1 aS d2 dc ch hc HM gd HB
   have g6:Hid (∀W,a0h H.heap.size H W->W.cell? ⟨c,0,none⟩=some (.map m1)/\(W.cell? ⟨w.heap.size,2,none⟩=some (.int .i64 n)/\W.cell? ⟨w.heap.size,3,none⟩=some (.int .u8 l.toNat)/\W.cell? ⟨w.heap.size,4,none⟩=some (.int .u8 lv.toNat)/\W.cell? ⟨w.heap.size,5,none⟩=some (.slice O a.length P))/\
    W.cell? ⟨B.heap.size,2,none⟩=some (.int .i64 I)/\W.cell? ⟨B.heap.size,3,none⟩=some (.int .u8 bv.toNat)/\W.cell? ⟨B.heap.size,4,none⟩=some (.int .u8 bw.toNat)/\W.cell? ⟨B.heap.size,5,none⟩=some (.slice cz au.length cP)):=λW R=>by
    obtain ⟨_,_,g2,g3,g4,g5⟩:=jY ((R.block _ (ae d3)).trans d3)
    obtain ⟨_,_,f2,f3,f4,f5⟩:=jY ((R.block _ (ae d4)).trans d4)
    exact ⟨(aa ((R.block c (ao.lt c ao.fc)).trans ao.blk) 0).trans rfl,⟨g2,g3,g4,g5⟩,f2,f3,f4,f5⟩
   have gq:∀W ty,a0h H.heap.size H W->(Builtin.len_ #[113] ty #[.map m1]).run a0c W= .ok (.int .i64 d.vs.length) W:=λW ty R=>by obtain ⟨ps,q1,q2,_⟩:=(ao.below R).vs;have:=cj.len q2 Tryz.underlying113 ty;rw [a0j,show ps.length=d.vs.length by rw [<- q1];simp] at this;exact this
   have e0:=a0a gq;clear gq;have d0:=a0a d3;have hu:=a0a d4;clear d3 d4;have a2:a0h H.heap.size H H.drew:=(a0f _ H).drew;obtain ⟨X,gf⟩:∃X,putX d (s,t) n ⟨l,lv,a⟩=X:=⟨_,rfl⟩;rw [gf] at bt ad bs;obtain ⟨d8,fl⟩:∃d8,d.vs.length=d8:=⟨_,rfl⟩;rw [fl] at bt e0;have hy:=a0a fl;clear gf aT fl;by_cases hnn:I=n
   · subst hnn;have h9:(I==I)=true:=by simp
     obtain ⟨q,g⟩:∃q,decide ((⟨bv,bw,au⟩:aB)=⟨l,lv,a⟩)=q:=⟨_,rfl⟩;have gy:Hid (∀W,a0h H.heap.size H W->Calls a0c 59 #[.agg #[.int .u8 bv.toNat, .int .u8 bw.toNat, .slice cz au.length cP], .agg #[.int .u8 l.toNat, .int .u8 lv.toNat, .slice O a.length P]] W λe w'=>e= .returned (.bool q)/\a0h W.heap.size W w'):=λW R=>by rw [<- g];exact yr _ _ ⟨bv,bw,au⟩ ⟨l,lv,a⟩ W ⟨_,rfl,(gz.out.kept (λq _ h=>R.block q (by have:=al.out.1;omega))).mono (a0e _) (by have:=al.out.1;have:=R.size;omega)⟩ ⟨_,rfl,(e6.out.kept (λq _ h=>R.block q (by have:=al.out.2;omega))).mono (a0e _) (by have:=al.out.2;have:=R.size;omega)⟩ hj f8 ht dx.out
     rw [decide_eq_true rfl,g,Bool.true_and] at bt;have HN:Hid (∀W,Calls a0c 56 #[.bool th, .bool q, .int .i64 I, .int .i64 I, .int .i64 d8] W λe w'=>e= .returned (.int .i64 X)/\W=w'):=λW=>by rw [bt.out];exact gg _ _ _ _ _ W
     clear g;go_wp2_with fail
     refine wT (λW=>a0h H.heap.size H W) 23 ?_;have C:=tkL [0,1,3,13,15,17,2,4,14,16,18,5,19,6,20,7,9,8,10];repeat (refine tkI C ?_ rfl a2 ?_ ?_;rotate_left;intro w' h;obtain ⟨h0,⟨J,h2,h3,h4⟩,h5,h6,h7,h8⟩:=g6 w' h;go_simp;rfl;(try go_simp);replace C:=tkO C)
     clear C;refine lJ (i:=11) rfl (by kernel_rfl) (by rfl) (λK b=>?_);go_simp;go_at_call 59;refine (gy _ a2).mono ?_;rintro e Y ⟨rfl,gQ⟩;have N:a0h H.heap.size H Y:=a2.trans gQ;refine b _ _ (λ_=>N) ?_;clear b K;go_simp;refine tk 12 ?_ rfl N ?_ ?_;rotate_left;intro w' h;go_simp;rfl;try go_simp
     have f9:=λty=>e0 Y ty N;refine dO 21 rfl λK b=>?_;go_simp;refine b _ _ (λ_=>N) ?_;clear b K;refine dO 22 rfl λK b=>?_;go_simp;go_at_call 56;refine (HN _).mono ?_;rintro e w9 ⟨rfl,rfl⟩;refine b _ _ (λ_=>N) ?_;clear b K;refine dO 23 rfl λK b=>?_;go_simp;refine b _ _ (λh=>absurd rfl h) ?_;clear b K;refine dN ?_;clear f9;by_cases hx:X=0
     · subst hx;have dk:Hid (putC d (s,t) I ⟨l,lv,a⟩=({d with vs:=insL ltRK d.vs (s,t) (I,⟨l,lv,a⟩)},0)):=by unfold Hid;rw [ad.out,if_pos rfl]
       have dz:Hid (aY {d with vs:=insL ltRK d.vs (s,t) (I,⟨l,lv,a⟩)}):=bs rfl;have e2:=a0a (ao.below N);have ax:=a0a ((N.block _ (ae d0.out)).trans d0.out);have e7:Hid (ai lo hi Y (.slice O a.length P) a):=e6.out.kept (λq _ h=>N.block q (by have:=al.out.2;omega));have dd:Hid (a0h w.heap.size w Y):=btr a6.out N a6.size;have bA:Hid (hi<=Y.heap.size):=by have:=al.out.2;have:=N.size;unfold Hid;omega
       have cc:¬F w.heap.size:=λhf=>by have:=g7.out _ hf;omega
       have da:Hid (Calls a0c 57 #[.pointer (some ⟨c,0,none⟩)] Y λe y=>e= .returned (.tuple #[])/\∃A j U V,Hid (dG A y c (some j) (some U) (some V) kn d)/\Hid (ag F Y A y)/\Hid (y.heap[w.heap.size]? =some (.cells #[.int .i64 s, .int .i64 t, .int .i64 I, .int .u8 l.toNat, .int .u8 lv.toNat, .slice O a.length P] 64 (0,0)))/\
        Hid (Calls a0c 60 #[.agg #[.int .u8 l.toNat, .int .u8 lv.toNat, .slice O a.length P]] y λe z=>∃D E,e= .returned (.agg #[.int .u8 l.toNat, .int .u8 lv.toNat, .slice D a.length E])/\Hid (ai y.heap.size z.heap.size z (.slice D a.length E) a)/\Hid (a0h y.heap.size y z)/\
         z.cell? ⟨w.heap.size,3,none⟩=some (.int .u8 l.toNat)/\z.cell? ⟨w.heap.size,4,none⟩=some (.int .u8 lv.toNat)/\z.cell? ⟨w.heap.size,5,none⟩=some (.slice O a.length P)/\z.frozen? ⟨w.heap.size,3,none⟩=false/\z.frozen? ⟨w.heap.size,4,none⟩=false/\z.frozen? ⟨w.heap.size,5,none⟩=false)/\
        y.cell? ⟨w.heap.size,3,none⟩=some (.int .u8 l.toNat)/\y.cell? ⟨w.heap.size,4,none⟩=some (.int .u8 lv.toNat)/\y.cell? ⟨w.heap.size,5,none⟩=some (.slice O a.length P)):=by
        refine (gw e2.out).mono ?_
        rintro e y ⟨he,A,j,U,V,hM,T⟩
        have a7:=(T.block _ (ae ax.out) cc).trans ax.out
        have eQ:ai lo hi y (.slice O a.length P) a:=e7.out.kept (λq J h=>T.block q (by have:=bA.out;omega) (g8.out q J h))
        obtain ⟨_,_,_,Z,b4,b5⟩:=jY a7
        refine ⟨he,A,j,U,V,hM,T,a7,?_,Z,b4,b5⟩
        refine (wV (.agg #[.int .u8 l.toNat, .int .u8 lv.toNat, .slice O a.length P]) ⟨l,lv,a⟩ y ⟨_,rfl,eQ.mono (a0e _) (Nat.le_trans bA.out T.size)⟩ f8 dx.out).mono ?_
        rintro e z ⟨v',he,⟨x2,hv,cv⟩,c6⟩
        obtain ⟨D,E,rfl⟩:=cv.shape
        have a0:=(c6.block _ (ae a7)).trans a7
        obtain ⟨_,_,_,Z,b4,b5⟩:=jY a0
        exact ⟨D,E,by rw [he,hv];rfl,cv,c6,Z,b4,b5,ab a0 3,ab a0 4,ab a0 5⟩
       go_wp2_with (first
        |(go_at_call 57;((with_reducible refine a0i da.out ?_);rintro e y ⟨rfl,A,j,U,V,bB,bY,ay,bO,Z,b4,b5⟩))
        |(go_at_call 60;((with_reducible refine a0i bO.out ?_);rintro e z ⟨D,E,rfl,er,a5,e3,e4,e5,f3,f4,f5⟩)))
       obtain ⟨u,a9⟩:∃u,((z.setCell ⟨w.heap.size,3,none⟩ (.int .u8 l.toNat)).setCell ⟨w.heap.size,4,none⟩ (.int .u8 lv.toNat)).setCell ⟨w.heap.size,5,none⟩ (.slice D a.length E)=u:=⟨_,rfl⟩;have a0:=(a5.block _ (ae ay.out)).trans ay.out;have b6:u.heap[w.heap.size]? =some (.cells #[.int .i64 s, .int .i64 t, .int .i64 I, .int .u8 l.toNat, .int .u8 lv.toNat, .slice D a.length E] 64 (0,0)):=by rw [<- a9];exact an (an (an a0 3 (.int .u8 l.toNat)) 4 (.int .u8 lv.toNat)) 5 (.slice D a.length E)
       have a3:aq w.heap.size z u:=by rw [<- a9];exact (((aq.refl _ z).setCell 3 _).setCell 4 _).setCell 5 _
       have fp:¬A w.heap.size:=bY.not (ae ax.out) cc;have a1:dG A u c (some j) (some U) (some V) kn d:=(bB.out.below a5.out).step (λq g=>a3.block q (λe=>fp (e ▸ g))) (by rw [a3.size];exact a0b _);have gP:w.heap.size<y.heap.size:=ae ay.out;have c5:ai y.heap.size z.heap.size u (.slice D a.length E) a:=er.out.kept (λq J _=>a3.block q (by omega));have cx:u.heap.size=z.heap.size:=a3.size;rw [a9];clear a9 a0 e3 e4 e5 f3 f4 f5 Z b4 b5 bO;obtain ⟨ps,q1,q2,q3⟩:=a1.vs;have cp:aw ltRK ps:=by have hs:=a1.ok.ok.vs;rw [<- q1] at hs;unfold aw at hs ⊢;rw [a0g] at hs;exact hs
       have hh:ps.length<=5000:=by have:=a1.ok.vlen;rw [<- q1] at this;simpa using this
       have ac:ak recB u j (ps.map λp=>(p.1,iz p.1 p.2)):=q2;obtain ⟨st,c1,c0,cl,c7,cd,cq⟩:=ak.entry (w:=u.drew) (ak.drew ac) gj Tryz.underlying113 ki (s,t) hk (by rw [a0j];unfold maxLen;omega);have b9:c≠j:=λe=>(aj ac a1.blk) e.symm;have ex:w.heap.size≠j:=λe=>(aj ac b6) e.symm;have aC:Hid (∀W,aq j u W->W.cell? ⟨c,0,none⟩=some (.map (some j))/\W.cell? ⟨w.heap.size,0,none⟩=some (.int .i64 s)/\W.cell? ⟨w.heap.size,1,none⟩=some (.int .i64 t)/\W.cell? ⟨w.heap.size,2,none⟩=some (.int .i64 I)/\W.cell? ⟨w.heap.size,3,none⟩=some (.int .u8 l.toNat)/\W.cell? ⟨w.heap.size,4,none⟩=some (.int .u8 lv.toNat)/\W.cell? ⟨w.heap.size,5,none⟩=some (.slice D a.length E)):=λW ho=>by obtain ⟨p0,p1,p2,p3,p4,p5⟩:=jY ((ho.block _ ex).trans b6);exact ⟨(aa ((ho.block c b9).trans a1.blk) 0).trans rfl,p0,p1,p2,p3,p4,p5⟩
       have bc:aq j u u.drew:=(aq.refl j u).drew;have c2:=aC _ bc;have L:=a0a a1;have eg:=a0a q1;have ej:=a0a q3;have em:=a0a cp;have es:=a0a c5;have e9:=a0a a3;clear a1 b6 q1 q2 q3 cp c5 a3 ac;refine wT (λW=>W.cell? ⟨c,0,none⟩=some (.map (some j))/\W.cell? ⟨w.heap.size,0,none⟩=some (.int .i64 s)/\W.cell? ⟨w.heap.size,1,none⟩=some (.int .i64 t)/\W.cell? ⟨w.heap.size,2,none⟩=some (.int .i64 I)/\W.cell? ⟨w.heap.size,3,none⟩=some (.int .u8 l.toNat)/\W.cell? ⟨w.heap.size,4,none⟩=some (.int .u8 lv.toNat)/\W.cell? ⟨w.heap.size,5,none⟩=some (.slice D a.length E)) 13 ?_;have C:=tkL [0,4,6,7,1,5,2,3];repeat (refine tkI C ?_ rfl c2 ?_ ?_;rotate_left;intro w' h;obtain ⟨h0,J,h2,h3,h4,h5,h6⟩:=h;go_simp;rfl;(try go_simp);replace C:=tkO C)
       clear C;refine dO 8 rfl λK b=>?_;refine bn rfl cl ?_;have bk:aq j u (a0d u.drew j (.map c1 c0)):=bc.trans cd;have b7:=aC _ bk;generalize a0d u.drew j (.map c1 c0)=w4 at *;refine b _ _ (λ_=>b7) ?_;clear b K;go_simp;refine tk 9 ?_ rfl b7 ?_ ?_;rotate_left;intro w' h;obtain ⟨h0,J,h2,h3,h4,h5,h6⟩:=h;go_simp;rfl;try go_simp
       refine dO 10 rfl λK b=>?_;obtain ⟨Q,cm,cb,cg⟩:=cq w4 (.agg #[.int .i64 s, .int .i64 t, .int .i64 I, .int .u8 l.toNat, .int .u8 lv.toNat, .slice D a.length E]) c7;refine aW rfl cm ?_;have M:aq j u Q:=bk.trans cg;have a8:=aC _ M;refine b _ _ (λ_=>a8) ?_;clear b K;go_simp;refine dO 11 rfl λK b=>?_;go_simp;refine b _ _ (λ_=>a8) ?_;clear b K;refine tk 12 ?_ rfl a8 ?_ ?_;rotate_left;intro w' h;obtain ⟨h0,J,h2,h3,h4,h5,h6⟩:=h;go_simp;rfl;try go_simp
       have c9:ak recB Q j ((insL ltRK ps (s,t) ((I,⟨l,lv,a⟩), .slice D a.length E)).map λp=>(p.1,iz p.1 p.2)):=cb.perm (iG aL em.out (λk v=>iz k v) (s,t) ((I,⟨l,lv,a⟩), .slice D a.length E));have a4:∀q,A q->q<y.heap.size:=bB.lt;have gO:=a5.size;have cs:iX (restF (λq=>A q∨(y.heap.size<=q/\q<z.heap.size)) c (some j) (some U) (some V)) Q (some j) (insL ltRK d.vs (s,t) (I,⟨l,lv,a⟩)):=by
        have hd:=a4 j (L.f1 j rfl);refine iX.ins eg.out ej.out L.out.ok.ok.vs (λq g=>M.block q (λe=>g.2.2.1 (by rw [e]))) (by rw [M.size];exact a0b _) (λq g=>⟨.inl g.1,g.2⟩) (es.out.kept (λq J _=>M.block q (by omega))) (by rw [M.size,cx];exact a0b _) (λq J h2=>⟨.inr ⟨J,h2⟩,?_,λe=>?_,λe=>?_,λe=>?_⟩) c9
        · have:=a4 c L.out.fc;omega
        · injection e with e;omega
        · injection e with e;have:=a4 U (L.out.f2 U rfl);omega
        · injection e with e;have:=a4 V (L.out.f3 V rfl);omega
       have hF:=L.out.put1 (G:=λq=>A q∨(y.heap.size<=q/\q<z.heap.size)) M (λq g=> .inl g) (λq g=>by rw [cx];rcases g with g|g;have:=a4 q g;omega;exact g.2) cs dz.out;have c3:Q.cell? ⟨c,3,none⟩=some kn:=(M.cell (p:=⟨c,3,none⟩) b9).trans ((aa L.blk 3).trans rfl);have f3:Q.frozen? ⟨c,3,none⟩=false:=(M.frozen (p:=⟨c,3,none⟩) b9).trans (ab L.blk 3);have HF:=a0a hF;have e8:=a0a M;clear hF c2 b7 a8 cb c9 cm cg cd cq cl c7 M bc bk cs;refine dO 13 rfl λK b=>?_;go_simp;refine b _ _ (λh=>absurd rfl h) ?_;clear b K;refine dN ?_;go_wp2_with fail
       go_ret;rw [dk.out];refine ⟨rfl,_,⟨_,_,_,_,HF.out⟩,?_⟩;have fr:ag F w F Y:=ag.of_below dd.out;have ft:ag F w A z:=(fr.trans bY.out).trans (ag.of_below a5.out);have fx:ag F w A u:=ft.own e9.out (a0b _);have fy:ag A u A Q:=ag.of_only e8.out (L.f1 j rfl);have fz:ag A Q A (Q.setCell ⟨c,3,none⟩ (.pointer none)):=ag.of_only (aq.setCell (aq.refl c Q) 3 _) L.fc;refine ((fx.trans fy).trans fz).more λq g=>?_;rcases g with g|g
       · exact .inl g
       · exact .inr (by omega)
     · have eq:=a0a hx;have cu:(X==0)=false:=by simpa using hx
       go_wp2_with fail
       go_ret;rw [ad.out,if_neg eq.out];exact ⟨rfl,F,⟨_,_,_,_,ao.below N⟩,ag.of_below (btr a6.out N a6.size)⟩
   · have h9:(I==n)=false:=by simpa using hnn
     rw [decide_eq_false hnn,Bool.false_and] at bt;have HN:Hid (∀W,Calls a0c 56 #[.bool th, .bool false, .int .i64 I, .int .i64 n, .int .i64 d8] W λe w'=>e= .returned (.int .i64 X)/\W=w'):=λW=>by rw [bt.out];exact gg _ _ _ _ _ W
     have N:=a2;go_wp2_with fail
     refine wT (λW=>a0h H.heap.size H W) 23 ?_;have C:=tkL [0,1,3,13,15,17,2,4,14,16,18,5,19,6,20];repeat (refine tkI C ?_ rfl a2 ?_ ?_;rotate_left;intro w' h;obtain ⟨h0,⟨J,h2,h3,h4⟩,h5,h6,h7,h8⟩:=g6 w' h;go_simp;rfl;(try go_simp);replace C:=tkO C)
     clear C;refine tf 7 rfl a2 ?_;(try go_simp)
     refine tf 9 rfl a2 ?_;(try go_simp)
     refine tf 8 rfl a2 ?_;(try go_simp)
     refine tf 10 rfl a2 ?_;(try go_simp)
     refine tf 11 rfl a2 ?_;(try go_simp)
     refine tk 12 ?_ rfl a2 ?_ ?_;rotate_left;intro w' h;go_simp;rfl;try go_simp
     have f9:=λty=>e0 H.drew ty a2;refine dO 21 rfl λK b=>?_;go_simp;refine b _ _ (λ_=>a2) ?_;clear b K;refine dO 22 rfl λK b=>?_;go_simp;go_at_call 56;refine (HN _).mono ?_;rintro e w9 ⟨rfl,rfl⟩;refine b _ _ (λ_=>a2) ?_;clear b K;refine dO 23 rfl λK b=>?_;go_simp;refine b _ _ (λh=>absurd rfl h) ?_;clear b K;refine dN ?_;obtain ⟨Y,gs⟩:∃Y,H.drew=Y:=⟨_,rfl⟩;rw [gs] at N ⊢;clear f9 gs;by_cases hx:X=0
     · subst hx;have dk:Hid (putC d (s,t) n ⟨l,lv,a⟩=({d with vs:=insL ltRK d.vs (s,t) (n,⟨l,lv,a⟩)},0)):=by unfold Hid;rw [ad.out,if_pos rfl]
       have dz:Hid (aY {d with vs:=insL ltRK d.vs (s,t) (n,⟨l,lv,a⟩)}):=bs rfl;have e2:=a0a (ao.below N);have ax:=a0a ((N.block _ (ae d0.out)).trans d0.out);have e7:Hid (ai lo hi Y (.slice O a.length P) a):=e6.out.kept (λq _ h=>N.block q (by have:=al.out.2;omega));have dd:Hid (a0h w.heap.size w Y):=btr a6.out N a6.size;have bA:Hid (hi<=Y.heap.size):=by have:=al.out.2;have:=N.size;unfold Hid;omega
       have cc:¬F w.heap.size:=λhf=>by have:=g7.out _ hf;omega
       have da:Hid (Calls a0c 57 #[.pointer (some ⟨c,0,none⟩)] Y λe y=>e= .returned (.tuple #[])/\∃A j U V,Hid (dG A y c (some j) (some U) (some V) kn d)/\Hid (ag F Y A y)/\Hid (y.heap[w.heap.size]? =some (.cells #[.int .i64 s, .int .i64 t, .int .i64 n, .int .u8 l.toNat, .int .u8 lv.toNat, .slice O a.length P] 64 (0,0)))/\
        Hid (Calls a0c 60 #[.agg #[.int .u8 l.toNat, .int .u8 lv.toNat, .slice O a.length P]] y λe z=>∃D E,e= .returned (.agg #[.int .u8 l.toNat, .int .u8 lv.toNat, .slice D a.length E])/\Hid (ai y.heap.size z.heap.size z (.slice D a.length E) a)/\Hid (a0h y.heap.size y z)/\
         z.cell? ⟨w.heap.size,3,none⟩=some (.int .u8 l.toNat)/\z.cell? ⟨w.heap.size,4,none⟩=some (.int .u8 lv.toNat)/\z.cell? ⟨w.heap.size,5,none⟩=some (.slice O a.length P)/\z.frozen? ⟨w.heap.size,3,none⟩=false/\z.frozen? ⟨w.heap.size,4,none⟩=false/\z.frozen? ⟨w.heap.size,5,none⟩=false)/\
        y.cell? ⟨w.heap.size,3,none⟩=some (.int .u8 l.toNat)/\y.cell? ⟨w.heap.size,4,none⟩=some (.int .u8 lv.toNat)/\y.cell? ⟨w.heap.size,5,none⟩=some (.slice O a.length P)):=by
        refine (gw e2.out).mono ?_
        rintro e y ⟨he,A,j,U,V,hM,T⟩
        have a7:=(T.block _ (ae ax.out) cc).trans ax.out
        have eQ:ai lo hi y (.slice O a.length P) a:=e7.out.kept (λq J h=>T.block q (by have:=bA.out;omega) (g8.out q J h))
        obtain ⟨_,_,_,Z,b4,b5⟩:=jY a7
        refine ⟨he,A,j,U,V,hM,T,a7,?_,Z,b4,b5⟩
        refine (wV (.agg #[.int .u8 l.toNat, .int .u8 lv.toNat, .slice O a.length P]) ⟨l,lv,a⟩ y ⟨_,rfl,eQ.mono (a0e _) (Nat.le_trans bA.out T.size)⟩ f8 dx.out).mono ?_
        rintro e z ⟨v',he,⟨x2,hv,cv⟩,c6⟩
        obtain ⟨D,E,rfl⟩:=cv.shape
        have a0:=(c6.block _ (ae a7)).trans a7
        obtain ⟨_,_,_,Z,b4,b5⟩:=jY a0
        exact ⟨D,E,by rw [he,hv];rfl,cv,c6,Z,b4,b5,ab a0 3,ab a0 4,ab a0 5⟩
       go_wp2_with (first
        |(go_at_call 57;((with_reducible refine a0i da.out ?_);rintro e y ⟨rfl,A,j,U,V,bB,bY,ay,bO,Z,b4,b5⟩))
        |(go_at_call 60;((with_reducible refine a0i bO.out ?_);rintro e z ⟨D,E,rfl,er,a5,e3,e4,e5,f3,f4,f5⟩)))
       obtain ⟨u,a9⟩:∃u,((z.setCell ⟨w.heap.size,3,none⟩ (.int .u8 l.toNat)).setCell ⟨w.heap.size,4,none⟩ (.int .u8 lv.toNat)).setCell ⟨w.heap.size,5,none⟩ (.slice D a.length E)=u:=⟨_,rfl⟩;have a0:=(a5.block _ (ae ay.out)).trans ay.out;have b6:u.heap[w.heap.size]? =some (.cells #[.int .i64 s, .int .i64 t, .int .i64 n, .int .u8 l.toNat, .int .u8 lv.toNat, .slice D a.length E] 64 (0,0)):=by rw [<- a9];exact an (an (an a0 3 (.int .u8 l.toNat)) 4 (.int .u8 lv.toNat)) 5 (.slice D a.length E)
       have a3:aq w.heap.size z u:=by rw [<- a9];exact (((aq.refl _ z).setCell 3 _).setCell 4 _).setCell 5 _
       have fp:¬A w.heap.size:=bY.not (ae ax.out) cc;have a1:dG A u c (some j) (some U) (some V) kn d:=(bB.out.below a5.out).step (λq g=>a3.block q (λe=>fp (e ▸ g))) (by rw [a3.size];exact a0b _);have gP:w.heap.size<y.heap.size:=ae ay.out;have c5:ai y.heap.size z.heap.size u (.slice D a.length E) a:=er.out.kept (λq J _=>a3.block q (by omega));have cx:u.heap.size=z.heap.size:=a3.size;rw [a9];clear a9 a0 e3 e4 e5 f3 f4 f5 Z b4 b5 bO;obtain ⟨ps,q1,q2,q3⟩:=a1.vs;have cp:aw ltRK ps:=by have hs:=a1.ok.ok.vs;rw [<- q1] at hs;unfold aw at hs ⊢;rw [a0g] at hs;exact hs
       have hh:ps.length<=5000:=by have:=a1.ok.vlen;rw [<- q1] at this;simpa using this
       have ac:ak recB u j (ps.map λp=>(p.1,iz p.1 p.2)):=q2;obtain ⟨st,c1,c0,cl,c7,cd,cq⟩:=ak.entry (w:=u.drew) (ak.drew ac) gj Tryz.underlying113 ki (s,t) hk (by rw [a0j];unfold maxLen;omega);have b9:c≠j:=λe=>(aj ac a1.blk) e.symm;have ex:w.heap.size≠j:=λe=>(aj ac b6) e.symm;have aC:Hid (∀W,aq j u W->W.cell? ⟨c,0,none⟩=some (.map (some j))/\W.cell? ⟨w.heap.size,0,none⟩=some (.int .i64 s)/\W.cell? ⟨w.heap.size,1,none⟩=some (.int .i64 t)/\W.cell? ⟨w.heap.size,2,none⟩=some (.int .i64 n)/\W.cell? ⟨w.heap.size,3,none⟩=some (.int .u8 l.toNat)/\W.cell? ⟨w.heap.size,4,none⟩=some (.int .u8 lv.toNat)/\W.cell? ⟨w.heap.size,5,none⟩=some (.slice D a.length E)):=λW ho=>by obtain ⟨p0,p1,p2,p3,p4,p5⟩:=jY ((ho.block _ ex).trans b6);exact ⟨(aa ((ho.block c b9).trans a1.blk) 0).trans rfl,p0,p1,p2,p3,p4,p5⟩
       have bc:aq j u u.drew:=(aq.refl j u).drew;have c2:=aC _ bc;have L:=a0a a1;have eg:=a0a q1;have ej:=a0a q3;have em:=a0a cp;have es:=a0a c5;have e9:=a0a a3;clear a1 b6 q1 q2 q3 cp c5 a3 ac;refine wT (λW=>W.cell? ⟨c,0,none⟩=some (.map (some j))/\W.cell? ⟨w.heap.size,0,none⟩=some (.int .i64 s)/\W.cell? ⟨w.heap.size,1,none⟩=some (.int .i64 t)/\W.cell? ⟨w.heap.size,2,none⟩=some (.int .i64 n)/\W.cell? ⟨w.heap.size,3,none⟩=some (.int .u8 l.toNat)/\W.cell? ⟨w.heap.size,4,none⟩=some (.int .u8 lv.toNat)/\W.cell? ⟨w.heap.size,5,none⟩=some (.slice D a.length E)) 13 ?_;have C:=tkL [0,4,6,7,1,5,2,3];repeat (refine tkI C ?_ rfl c2 ?_ ?_;rotate_left;intro w' h;obtain ⟨h0,J,h2,h3,h4,h5,h6⟩:=h;go_simp;rfl;(try go_simp);replace C:=tkO C)
       clear C;refine dO 8 rfl λK b=>?_;refine bn rfl cl ?_;have bk:aq j u (a0d u.drew j (.map c1 c0)):=bc.trans cd;have b7:=aC _ bk;generalize a0d u.drew j (.map c1 c0)=w4 at *;refine b _ _ (λ_=>b7) ?_;clear b K;go_simp;refine tk 9 ?_ rfl b7 ?_ ?_;rotate_left;intro w' h;obtain ⟨h0,J,h2,h3,h4,h5,h6⟩:=h;go_simp;rfl;try go_simp
       refine dO 10 rfl λK b=>?_;obtain ⟨Q,cm,cb,cg⟩:=cq w4 (.agg #[.int .i64 s, .int .i64 t, .int .i64 n, .int .u8 l.toNat, .int .u8 lv.toNat, .slice D a.length E]) c7;refine aW rfl cm ?_;have M:aq j u Q:=bk.trans cg;have a8:=aC _ M;refine b _ _ (λ_=>a8) ?_;clear b K;go_simp;refine dO 11 rfl λK b=>?_;go_simp;refine b _ _ (λ_=>a8) ?_;clear b K;refine tk 12 ?_ rfl a8 ?_ ?_;rotate_left;intro w' h;obtain ⟨h0,J,h2,h3,h4,h5,h6⟩:=h;go_simp;rfl;try go_simp
       have c9:ak recB Q j ((insL ltRK ps (s,t) ((n,⟨l,lv,a⟩), .slice D a.length E)).map λp=>(p.1,iz p.1 p.2)):=cb.perm (iG aL em.out (λk v=>iz k v) (s,t) ((n,⟨l,lv,a⟩), .slice D a.length E));have a4:∀q,A q->q<y.heap.size:=bB.lt;have gO:=a5.size;have cs:iX (restF (λq=>A q∨(y.heap.size<=q/\q<z.heap.size)) c (some j) (some U) (some V)) Q (some j) (insL ltRK d.vs (s,t) (n,⟨l,lv,a⟩)):=by
        have hd:=a4 j (L.f1 j rfl);refine iX.ins eg.out ej.out L.out.ok.ok.vs (λq g=>M.block q (λe=>g.2.2.1 (by rw [e]))) (by rw [M.size];exact a0b _) (λq g=>⟨.inl g.1,g.2⟩) (es.out.kept (λq J _=>M.block q (by omega))) (by rw [M.size,cx];exact a0b _) (λq J h2=>⟨.inr ⟨J,h2⟩,?_,λe=>?_,λe=>?_,λe=>?_⟩) c9
        · have:=a4 c L.out.fc;omega
        · injection e with e;omega
        · injection e with e;have:=a4 U (L.out.f2 U rfl);omega
        · injection e with e;have:=a4 V (L.out.f3 V rfl);omega
       have hF:=L.out.put1 (G:=λq=>A q∨(y.heap.size<=q/\q<z.heap.size)) M (λq g=> .inl g) (λq g=>by rw [cx];rcases g with g|g;have:=a4 q g;omega;exact g.2) cs dz.out;have c3:Q.cell? ⟨c,3,none⟩=some kn:=(M.cell (p:=⟨c,3,none⟩) b9).trans ((aa L.blk 3).trans rfl);have f3:Q.frozen? ⟨c,3,none⟩=false:=(M.frozen (p:=⟨c,3,none⟩) b9).trans (ab L.blk 3);have HF:=a0a hF;have e8:=a0a M;clear hF c2 b7 a8 cb c9 cm cg cd cq cl c7 M bc bk cs;refine dO 13 rfl λK b=>?_;go_simp;refine b _ _ (λh=>absurd rfl h) ?_;clear b K;refine dN ?_;go_wp2_with fail
       go_ret;rw [dk.out];refine ⟨rfl,_,⟨_,_,_,_,HF.out⟩,?_⟩;have fr:ag F w F Y:=ag.of_below dd.out;have ft:ag F w A z:=(fr.trans bY.out).trans (ag.of_below a5.out);have fx:ag F w A u:=ft.own e9.out (a0b _);have fy:ag A u A Q:=ag.of_only e8.out (L.f1 j rfl);have fz:ag A Q A (Q.setCell ⟨c,3,none⟩ (.pointer none)):=ag.of_only (aq.setCell (aq.refl c Q) 3 _) L.fc;refine ((fx.trans fy).trans fz).more λq g=>?_;rcases g with g|g
       · exact .inl g
       · exact .inr (by omega)
     · have eq:=a0a hx;have cu:(X==0)=false:=by simpa using hx
       go_wp2_with fail
       go_ret;rw [ad.out,if_neg eq.out];exact ⟨rfl,F,⟨_,_,_,_,ao.below N⟩,ag.of_below (btr a6.out N a6.size)⟩
 · rw [decide_eq_false hr] at HR;have HE:=a0a (ds hr);clear ad ds bs aT hr;go_enter Tryz.func29,Tryz.ntmps29;go_wp2_with (go_at_call 58;((with_reducible refine a0i (HR.out _ (a0f _ _)) ?_);rintro e B ⟨rfl,av⟩))
   go_ret;rw [HE.out];exact ⟨rfl,F,⟨_,_,_,_,HM.below av⟩,ag.of_below (btr cQ.out av cQ.size)⟩
end
section
open Go.RowKit Go.Maps Go.Shelf
theorem vn (a b:Int) (n:Int) (k l:Int) (x:a0q) (w:a0n):(Instr.field 64 (.agg #[.int .i64 a, .int .i64 b, .int .i64 n, .int .u8 k, .int .u8 l,x]) 1).run a0c w= .ok (.int .i64 n) w:=by kernel_rfl
theorem vm (a b:Int) (n:Int) (k l:Int) (o:Option Addr) (m c:Nat) (w:a0n):(Instr.field 64 (.agg #[.int .i64 a, .int .i64 b, .int .i64 n, .int .u8 k, .int .u8 l, .slice o m c]) 2).run a0c w= .ok (.agg #[.int .u8 k, .int .u8 l, .slice o m c]) w:=by kernel_rfl
theorem sR (a:Int) (j:Bool) (w:a0n):(Instr.field 139 (.agg #[.int .i64 a, .bool j]) 1).run a0c w= .ok (.bool j) w:=by kernel_rfl
def inC (d:ar) (p:RK×(Int×aB)):Bool:=match findK d.ds p.1 with
 |some n=>decide (n<=p.2.1)
 |none=>true
theorem pr (d:ar):thereC d=d.vs.filter (inC d):=rfl
theorem tK (l:List RK):∀u∈l.flatMap rkCells,u.oneCell'=true:=by
 intro u a;obtain ⟨p,b,a⟩:=List.mem_flatMap.1 a;simp only [rkCells,List.mem_cons,List.not_mem_nil,or_false] at a;rcases a with rfl|rfl<;>rfl
theorem od (l:List RK):(l.flatMap rkCells).length=l.length * 2:=by
 induction l with
 |nil=>rfl
 |cons p ps ih=>rw [List.flatMap_cons,List.length_append,ih];simp [rkCells];omega
theorem jQ (w:a0n) (o:Obj) (x y:a0q) (t:TypeId):∀j v,[x,y][j]? =some v->((w.alloc o).alloc (.cells #[x,y] t)).drew.drew.cell? ((⟨w.heap.size+1,0,none⟩:Addr).add j)=some v:=by
 have h:=cell_two_new (w.alloc o) x y t;rw [World.size_alloc] at h;exact h
theorem mM {w:a0n} {B e k n:Nat} {v:a0q} {a:List a0q} (h:w.ownsRow B e k v n a):w.drew.drew.ownsRow B e k v n a:=h
theorem tJ {w:a0n} {B e k n:Nat} {v:a0q} {b:List a0q} {o a:Obj} (h:w.ownsRow B e k v n b):((w.alloc o).alloc a).ownsRow B e k v n b:=(h.alloc o).alloc a
theorem wl (F:Nat->Prop) (w:a0n) (c:Nat) (A m2 m3:Option Nat) (kn:a0q) (d:ar) (h:dG F w c A m2 m3 kn d):
 Calls a0c 77 #[.pointer (some ⟨c,0,none⟩)] w λe w'=>∃v,e= .returned v/\w'.ownsRow w.heap.size 36 2 v ((thereC d).map (·.1)).length (((thereC d).map (·.1)).flatMap rkCells)/\a0h w.heap.size w w':=by
 obtain ⟨ps,N,q2,q3⟩:=h.vs;have aT:cM ltRK (ps.map (·.1))=d.vs.map (·.1):=by rw [<- N,List.map_map];refine cH aL (.refl _) ?_;have z:=h.ok.ok.vs;rw [<- N] at z;unfold aw at z;rw [a0g] at z ⊢;exact z
 have a2:ps.length=d.vs.length:=by rw [<- N];simp
 have bA:=h.ok.vlen;have HK:=a0a (yZ A w);have Z:a0h w.heap.size w (w.alloc (.cells #[.map A] 113)):=(a0f _ w).alloc (a0b _) _;have a4:=uV 8 (by omega) w.heap.size A (ps.map λp=>(p.1,iz p.1 p.2)) (w.alloc (.cells #[.map A] 113)) (by rw [World.cell?_alloc_new];rfl) (q2.block (λb K=>Z.block b (h.lt b (h.f1 b K)))) (λb K=>by have:=h.lt b (h.f1 b K);simp;omega);have b1:(ps.map λp=>(p.1,iz p.1 p.2)).map (·.1)=ps.map (·.1):=by rw [List.map_map];rfl
 rw [b1] at a4;have O:=a0a (mJ 10 (by omega) 108 #[.pointer (some ⟨w.heap.size,0,none⟩)] (enters_of Tryz.func108 (by kernel_rfl) rfl) (ps.map (·.1)) (by simp;omega) _ _ (λcb x hx=>by have:=hx.1;simp at this;omega) _ a4);rw [aT] at O;have a1:(ps.map (·.1)).length=(d.vs.map (·.1)).length:=by simp [a2]
 rw [a1] at O;have c0:w.cell? ⟨c,0,none⟩=some (.map A):=(aa h.blk 0).trans rfl;have I:=a0a h;have a9:=a0a Z;have ao:=a0a N;have bk:=a0a q2;have bs:=a0a q3;have bc:=a0a a2;have b9:(w.alloc (.cells #[.map A] 113)).heap.size=w.heap.size+1:=by simp
 have bO:=a0a b9;clear a4 b1 aT a1 h Z N q2 q3 a2 b9;obtain ⟨i0,hi,b6,b7,b8⟩:=info_parts i36;have HI:=a0a hi;have ac:=a0a b6;have ad:=a0a b7;have al:=a0a b8;clear hi b6 b7 b8;obtain ⟨t,Q⟩:∃t,d.vs.map (·.1)=t:=⟨_,rfl⟩;rw [Q] at O;have a1:t.length<=5000:=by rw [<- Q];simpa using bA
 have V:=a0a Q;clear Q;go_enter Tryz.func77,Tryz.ntmps77
 go_wp2_with (first
  |(go_at_call 61;((with_reducible refine a0i HK.out ?_);rintro e w1 ⟨rfl,rfl⟩))
  |(go_at_call 47;((with_reducible refine a0i O.out ?_);rintro e s ⟨v,rfl,a3,aC⟩;obtain ⟨va,vc,rfl⟩:=aK a3;have bt:=a0a a3;have bb:=a0a aC;clear a3 aC)))
 have av:a0h w.heap.size w s:=a9.trans (bb.mono a9.size);have B:=a0a av;clear av;go_loopw [3,5,6,7,15] (λbB _p _a _b i wr=>∃(k:Nat) (G:Option Addr) (H:Nat) (g:List RK),k<=t.length/\i= .int .i64 k/\Hid (g=((d.vs.take k).filter (inC d)).map (·.1))/\bB= .slice G g.length H/\Hid (wr.ownsRow (s.heap.size) 36 2 (.slice G g.length H) g.length (g.flatMap rkCells))/\Hid (a0h s.heap.size s wr)) (λ_ _ _ _ i _=>t.length - (intOf i).toNat)
 case atStart=>exact ⟨0,none,0,[],a0e _,rfl,rfl,rfl,World.ownsRow_nil _ _ _ _,a0f _ _⟩
 case round=>
  obtain ⟨k,G,H,g,hk,rfl,J,rfl,E,u⟩:=hrel;by_cases hlt:k<t.length
  · have a5:k<d.vs.length:=by rw [<- V.out] at hlt;simpa using hlt
    have c7:k<ps.length:=by rw [bc.out];exact a5
    have au:=a0a ((bm bt.out).kept (w':=wr) (λq _ hq=>u.block q hq));have b3:d9 0 s.heap.size wr (.slice va t.length vc) t:=au.mono (a0e _) (a0b _);obtain ⟨b,c9,bY,he,_,c3,e0,e1⟩:=b3.one k hlt;cases he;have P:Hid (d.vs.take (k+1)=d.vs.take k++[d.vs[k]]):=List.take_succ_eq_append_getElem a5;have b0:t[k]=d.vs[k].1:=by simp [<- V.out]
    have C:=I.below (B.trans (u.mono B.size));obtain ⟨p,hp⟩:∃p,d.vs[k]=p:=⟨_,rfl⟩;have T:p∈d.vs:=by rw [<- hp];exact List.getElem_mem a5
    rw [hp] at P b0;obtain ⟨⟨a,f⟩,n,r⟩:=p;have b2:rkOk (a,f):=I.ok.vkey _ T;rw [b0] at e0 e1;dsimp only at e0 e1;have L:∃x,findK ps (a,f)=some ((n,r),x):=by
     rw [<- ao.out] at T;obtain ⟨q,hq,he⟩:=List.mem_map.1 T;obtain ⟨qk,qv,qx⟩:=q;injection he with h1 h2
     dsimp only at h1 h2;subst h1;subst h2;have z:=I.ok.ok.vs;rw [<- ao.out] at z;unfold aw at z;rw [a0g] at z;exact ⟨qx,(eA aL (l:=ps) z).2 hq⟩
    obtain ⟨x,L⟩:=L;obtain ⟨_,_,aS,_,_⟩:=bs _ (t7 L);obtain ⟨xa,xc,b5⟩:=aS.shape;dsimp only at b5;subst b5;clear aS;have ay:∀W,a0h wr.heap.size wr W->(a0m 113 (.map A) (.agg #[.int .i64 a, .int .i64 f]) false).run a0c W= .ok (.agg #[.int .i64 a, .int .i64 f, .int .i64 n, .int .u8 r.kind.toNat, .int .u8 r.level.toNat, .slice xa r.fields.length xc]) W:=λW Y=>by have bw:a0h w.heap.size w W:=(B.out.trans (u.out.mono B.out.size)).trans (Y.mono (by have:=B.out.size;have:=u.out.size;omega));have:=cj.look (w:=W) (bk.block (λb K=>bw.block b (I.lt b (I.f1 b K)))) Tryz.underlying113 ki (a,f) b2;rw [fB,L] at this;exact this
    have ax:∀W,a0h wr.heap.size wr W->(a0m 114 (.map m2) (.agg #[.int .i64 a, .int .i64 f]) true).run a0c W= .ok (.tuple #[.int .i64 ((findK d.ds (a,f)).getD 0), .bool (findK d.ds (a,f)).isSome]) W:=λW Y=>by have:=cj.look_ok (w:=W) ((C.below Y).ds) Tryz.underlying114 vV (a,f) b2;rw [eW d.ds (λn=>Value.int .i64 n)] at this;refine Eq.trans this ?_;cases findK d.ds (a,f)<;>rfl
    have b4:∀o,a0h wr.heap.size wr (wr.alloc o).drew:=λo=>((a0f _ wr).alloc (a0b _) o).drew;have R:=λo=>ax _ (b4 o);have c5:=λo=>ay _ (b4 o).drew;have c4:=λW=>vn a f n r.kind.toNat r.level.toNat (.slice xa r.fields.length xc) W;have c2:∀o,(wr.alloc o).cell? ⟨c,1,none⟩=some (.map m2):=λo=>by rw [aR _ _ _ _ (C.lt c C.fc)];exact (aa C.blk 1).trans rfl
    have c1:∀o,(wr.alloc o).cell? ⟨c,0,none⟩=some (.map A):=λo=>by rw [aR _ _ _ _ (C.lt c C.fc)];exact (aa C.blk 0).trans rfl
    have c6:g.length<=5000:=by rw [J.out,a0j];have:=List.length_filter_le (inC d) (d.vs.take k);rw [List.length_take] at this;omega
    have a6:=u.size;clear ay ax L C b3 au T hp;have y:Hid (inC d ((a,f),n,r)=match findK d.ds (a,f) with |some m=>decide (m<=n)|none=>true):=rfl;cases hf:findK d.ds (a,f) with
    |none=>
     rw [hf] at R y;dsimp only at y;simp only [a0u,a0s] at R;clear hf;go_wp2_with fail
     go_region;go_wp2_with fail
     go_region;go_wp2_with (at_builtin;refine wpList_append_own_at _ rfl _ _ 52 rfl s.heap.size 36 i0 (.agg #[.int .i64 0, .int .i64 0]) 2 16 Tryz.underlying52 HI.out ac.out ad.out al.out rfl (by decide) (.slice G g.length H) _ _ rfl (mM (tJ E.out)) ⟨wr.heap.size+1,0,none⟩ 1 1 [.int .i64 a, .int .i64 f] rfl rfl (jQ _ _ _ _ _) (by simp [Value.oneCell']) (by unfold maxLen;omega) (by omega) (by simp;omega) ?_;intro v' w5 D M _ bv;obtain ⟨a7,a8,rfl⟩:=bH D;have X:=a0a D;have U:=a0a M;clear D M)
     go_roundw
     case rel=>
      refine ⟨k+1,a7,a8,g++[(a,f)],by omega,by go_num,?_,by simp,?_,?_⟩
      · unfold Hid;rw [P.out,a0l,a0o,J.out];simp [y.out]
      · have:=X.out;exact a0a (by simpa [rkCells] using this)
      · have a0:a0h s.heap.size s ((wr.alloc (.cells #[.int .i64 a, .int .i64 f] 36)).alloc (.cells #[.int .i64 a, .int .i64 f] 36)).drew.drew:=(((u.out.alloc a6 _).alloc (by simp;omega) _).drew).drew;exact a0.grown U.out (by simp;omega) (λj hj=>(E.out.lt j hj).1)
     case measure=>simp [intOf];omega
    |some m=>
     rw [hf] at R y;dsimp only at y;simp only [Option.getD_some,Option.isSome_some] at R;clear hf;by_cases hmn:m<=n
     · rw [decide_eq_true hmn] at y;go_wp2_with fail
       go_region;go_wp2_with fail
       go_region;go_wp2_with (at_builtin;refine wpList_append_own_at _ rfl _ _ 52 rfl s.heap.size 36 i0 (.agg #[.int .i64 0, .int .i64 0]) 2 16 Tryz.underlying52 HI.out ac.out ad.out al.out rfl (by decide) (.slice G g.length H) _ _ rfl (mM (tJ E.out)) ⟨wr.heap.size+1,0,none⟩ 1 1 [.int .i64 a, .int .i64 f] rfl rfl (jQ _ _ _ _ _) (by simp [Value.oneCell']) (by unfold maxLen;omega) (by omega) (by simp;omega) ?_;intro v' w5 D M _ bv;obtain ⟨a7,a8,rfl⟩:=bH D;have X:=a0a D;have U:=a0a M;clear D M)
       go_roundw
       case rel=>
        refine ⟨k+1,a7,a8,g++[(a,f)],by omega,by go_num,?_,by simp,?_,?_⟩
        · unfold Hid;rw [P.out,a0l,a0o,J.out];simp [y.out]
        · have:=X.out;exact a0a (by simpa [rkCells] using this)
        · have a0:a0h s.heap.size s ((wr.alloc (.cells #[.int .i64 a, .int .i64 f] 36)).alloc (.cells #[.int .i64 a, .int .i64 f] 36)).drew.drew:=(((u.out.alloc a6 _).alloc (by simp;omega) _).drew).drew;exact a0.grown U.out (by simp;omega) (λj hj=>(E.out.lt j hj).1)
       case measure=>simp [intOf];omega
     · rw [decide_eq_false hmn] at y;go_wp2_with fail
       go_region;go_wp2_with fail
       go_region;go_wp2_with fail
       go_roundw
       case rel=> refine ⟨k+1,G,H,g,by omega,by go_num,?_,rfl,(E.out.alloc _),(u.out.alloc a6 _).drew.drew⟩;unfold Hid;rw [P.out,a0l,a0o,J.out];simp [y.out]
       case measure=>simp [intOf];omega
  · have HE:Hid (g=(thereC d).map (·.1)):=by
     unfold Hid
     rw [J.out,pr,List.take_of_length_le (by have:t.length=d.vs.length:=by rw [<- V.out];simp
                                             omega)]
    go_wp2_with fail
    go_ret;rw [<- HE.out];exact ⟨_,rfl,bE E.out B.size,B.trans (u.mono B.size)⟩
end
end Go.Proofs.YtjcimanddakkaaaGreatDoor
