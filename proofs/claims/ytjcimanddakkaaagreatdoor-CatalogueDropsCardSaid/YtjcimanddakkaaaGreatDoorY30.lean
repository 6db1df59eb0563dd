/- Lemmas. -/
import Derived.Test.YtjcimanddakkaaaGreatDoorY29
import Derived.Test.YtjcimanddakkaaaGreatDoorY31
set_option maxRecDepth 100000
set_option maxHeartbeats 8000000
namespace Go.Proofs.YtjcimanddakkaaaGreatDoor
open _root_.Option renaming some→X,none→Y
open Go.Value renaming int→J,bool→h1,pointer→ha,slice→hc
open Go.IntKind renaming i64→U,u8→ce
open Go.Ending renaming returned→fn
open Go.Lib renaming hid→Z
open Go.Obj renaming cells→h2
open Tryz
open Go.RowKit.Below renaming heap_setCell→he,refl→hl
open Go.Calls renaming mono→hg
open Go.World renaming alloc_heap_new→hh
open _root_.Nat renaming le_trans→hj,le_refl→hm,zero_le→hp
open Go renaming World→ho
section
open Go.RowKit Go.Maps Go.Shelf
structure TwC (w:ho) (FC FD:Nat->Prop) (W:ho) (c e:Nat) (d d':aq) (L:List (Nat×Obj)) (lo hi:Nat):Prop where
 c1:be FC W c d
 c2:be FD W e d'
 dis:∀k,FC k->FD k->False
 base:∀k,FC k∨FD k->w.heap.size<=k
 own:∀q∈L,W.heap[q.1]? =some q.2/\¬FC q.1/\¬FD q.1
 mid:hi<=W.heap.size/\∀k,lo<=k->k<hi->¬FC k/\¬FD k
 bel:Bw w W
theorem TwC.one {w W W':ho} {m n i:Nat->Prop} {c e:Nat} {d o p:aq} {L:List (Nat×Obj)} {lo j:Nat} (h:TwC w m n W c e d o L lo j) (t:be i W' c p) (s:ag m W i W'):
 TwC w i n W' c e p o L lo j/\fS lo j W W':=by
 refine ⟨⟨t,h.c2.step (λk g=>s.block k (h.c2.lt k g) (λu=>h.dis k u g)) s.size,λk a b=>?_,λk g=>?_,λq l=>?_,⟨hj h.mid.1 s.size,λk a b=>?_⟩,?_⟩,λk a b=>s.block k (Nat.lt_of_lt_of_le b h.mid.1) (h.mid.2 k a b).1⟩
 · rcases s.new k a with f|f
   · exact h.dis k f b
   · have:=h.c2.lt k b;omega
 · rcases g with a|a
   · rcases s.new k a with f|f
     · exact h.base k (.inl f)
     · exact hj h.bel.size f
   · exact h.base k (.inr a)
 · obtain ⟨a,b,f⟩:=h.own q l;have r:=ae a;exact ⟨(s.block q.1 r b).trans a,s.not r b,f⟩
 · exact ⟨s.not (Nat.lt_of_lt_of_le b h.mid.1) (h.mid.2 k a b).1,(h.mid.2 k a b).2⟩
 · exact h.bel.trans ((s.below (λq l=>h.base q (.inl l)) h.bel.size).1)
theorem TwC.swap {w W:ho} {g i:Nat->Prop} {c e:Nat} {d j:aq} {L:List (Nat×Obj)} {lo l:Nat} (h:TwC w g i W c e d j L lo l):TwC w i g W e c j d L lo l:=
 ⟨h.c2,h.c1,λk a b=>h.dis k b a,λk m=>h.base k m.symm,λq f=>⟨(h.own q f).1,(h.own q f).2.2,(h.own q f).2.1⟩,⟨h.mid.1,λk a b=>⟨(h.mid.2 k a b).2,(h.mid.2 k a b).1⟩⟩,h.bel⟩
theorem TwC.two {w W W':ho} {f g a:Nat->Prop} {c e:Nat} {d k i:aq} {L:List (Nat×Obj)} {lo b:Nat} (h:TwC w f g W c e d k L lo b) (j:be a W' e i) (s:ag g W a W'):
 TwC w f a W' c e d i L lo b/\fS lo b W W':=⟨(h.swap.one j s).1.swap,(h.swap.one j s).2⟩
theorem TwC.below {w W W':ho} {b f:Nat->Prop} {c e:Nat} {d g:aq} {L:List (Nat×Obj)} {lo a:Nat} (h:TwC w b f W c e d g L lo a) (i:Bw W W'):
 TwC w b f W' c e d g L lo a/\fS lo a W W':=h.one (h.c1.below i) (ag.of_below i)
theorem TwC.lay {w W:ho} {i j:Nat->Prop} {c e:Nat} {d k:aq} {L:List (Nat×Obj)} {lo f:Nat} (h:TwC w i j W c e d k L lo f) (o:Obj) (n:∀W:ho,(W.alloc o).heap[W.heap.size]? =X o):
 TwC w i j (W.alloc o) c e d k ((W.heap.size,o)::L) lo f/\fS lo f W (W.alloc o):=by
 have m:Bw W (W.alloc o):=(hl _ W).alloc (hm _) _;obtain ⟨a,l⟩:=h.below m;refine ⟨⟨a.c1,a.c2,a.dis,a.base,λq g=>?_,a.mid,a.bel⟩,l⟩;rcases List.mem_cons.1 g with rfl|g
 · exact ⟨n W,λb=>absurd (h.c1.lt _ b) (Nat.lt_irrefl _),λb=>absurd (h.c2.lt _ b) (Nat.lt_irrefl _)⟩
 · exact a.own q g
theorem TwC.cell {w W:ho} {f g:Nat->Prop} {c e:Nat} {d j:aq} {L:List (Nat×Obj)} {lo k:Nat} (h:TwC w f g W c e d j L lo k) {b:Nat} {a:Array Value} {t:TypeId} (l:(b,Obj.cells a t (0,0))∈L) (i:Nat):W.cell? ⟨b,i,Y⟩=a[i]? :=aa (h.own _ l).1 i
theorem TwC.win {w W W':ho} {g i:Nat->Prop} {c e:Nat} {d j:aq} {L:List (Nat×Obj)} {lo m:Nat} (h:TwC w g i W c e d j L lo m) (l:Bw W W'):
 TwC w g i W' c e d j L W.heap.size W'.heap.size:=by
 obtain ⟨b,_⟩:=h.below l;exact ⟨b.c1,b.c2,b.dis,b.base,b.own,⟨hm _,λk a _=>⟨λf=>by have:=h.c1.lt k f;omega,λf=>by have:=h.c2.lt k f;omega⟩⟩,b.bel⟩
theorem TwC.over {w W W':ho} {i j:Nat->Prop} {c e:Nat} {d l:aq} {L:List (Nat×Obj)} {lo m V:Nat} {o r:Obj} (h:TwC w i j W c e d l ((V,o)::L) lo m) (x:W'.heap[V]? =X r) (g:∀k,k≠V->W'.heap[k]? =W.heap[k]?) (y:∀q∈L,q.1≠V) (a:Below w.heap.size W W'):
 TwC w i j W' c e d l ((V,r)::L) lo m:=by
 obtain ⟨_,n,p⟩:=h.own _ (.head _);refine ⟨h.c1.step (λk f=>g k (λe=>n (e ▸ f))) a.size,h.c2.step (λk f=>g k (λe=>p (e ▸ f))) a.size,h.dis,h.base,λq b=>?_,⟨hj h.mid.1 a.size,h.mid.2⟩,h.bel.trans a⟩;rcases List.mem_cons.1 b with rfl|b
 · exact ⟨x,n,p⟩
 · obtain ⟨s,t,u⟩:=h.own q (.tail _ b);exact ⟨(g q.1 (y q b)).trans s,t,u⟩
theorem drops_6 (v:Value) (l:List dE) (n x y:Int) (w:ho) (h:jT w v l) (hn: -9223372036854775808<=n/\n<=9223372036854775807) (hx:0<=x/\x<256) (hy:0<=y/\y<256):Calls prog 6 #[v,J U n, .agg #[J ce x,J ce y]] w λe w'=>e=fn (h1 true)/\Bw w w':=by
 have e7:=Z (λW=>uG W);have c0:=Z (λW (hb:Bw w W)=>yK v l W (h.keep hb));obtain ⟨d,hd⟩:=Qe (playC l);have dx:=wU l;have dz:=yJ l;rw [hd] at c0 dx dz;have f4:=Z dx;have gQ:=Z dz;clear h dx dz hd;go_enter func6,ntmps6;obtain ⟨A,hA⟩:=Qe w.heap.size;obtain ⟨w0,c7⟩:=Qe (w.alloc (h2 #[J ce x,J ce y] 70));have g7:Bw w w0:=by rw [<- c7];exact (hl _ w).alloc (hm _) _
 have ft:w0.heap[A]? =X (h2 #[J ce x,J ce y] 70 (0,0)):=by rw [<- c7, <- hA];exact hh w _
 have cg:=Z ft;have ch:=Z g7;clear ft g7;go_upto_region 1 with fail
 (try rw [hA])
 (try rw [c7])
 have HA:=Z hA;clear c7 hA;have fs:=e7 w0;have e8:=Z fs;clear fs;go_upto_region 2 with (go_at_call 10;((with_reducible refine hg e8.o ?_);rintro e w1 ⟨rfl,g8⟩;have cl:=Z g8;clear g8))
 have b1:Hid (Bw w w1):=ch.trans (cl.mono ch.size);have bc:=c0 w1 b1.o;have e9:=Z bc;clear bc;go_upto_region 3 with (go_at_call 11;((with_reducible refine hg e9.o ?_);rintro e w3 ⟨c,p,FC,FM,rfl,bB,bt,bw⟩;have cz:=Z bB;have b7:=Z bt;have cy:=Z bw;clear bB bt bw))
 obtain ⟨B,hB⟩:=Qe w3.heap.size;obtain ⟨w4,c9⟩:=Qe (w3.alloc (h2 #[ha (X ⟨c,0,Y⟩),ha (X ⟨p,0,Y⟩)] 27));have da:Bw w3 w4:=by rw [<- c9];exact (hl _ w3).alloc (hm _) _
 have fx:w4.heap[B]? =X (h2 #[ha (X ⟨c,0,Y⟩),ha (X ⟨p,0,Y⟩)] 27 (0,0)):=by rw [<- c9, <- hB];exact hh w3 _
 have cP:Hid (w.heap.size<=w3.heap.size):=hj b1.size b7.size;have c3:Hid (Bw w w4):=(b1.trans (b7.mono b1.size)).trans (da.mono cP.o);have c5:=Z da;have cm:=Z fx;have eq:=Z hB;(try rw [hB])
 (try rw [c9])
 clear da fx hB c9;have bc:=c0 w4 c3.o;have eg:=Z bc;clear bc;go_upto_region 4 with (go_at_call 11;((with_reducible refine hg eg.o ?_);rintro e w5 ⟨L,pe,FD,FN,rfl,bB,bt,bw⟩;have f5:=Z bB;have b2:=Z bt;have b8:=Z bw;clear bB bt bw))
 obtain ⟨D,hD⟩:=Qe w5.heap.size;obtain ⟨w6,e4⟩:=Qe (w5.alloc (h2 #[ha (X ⟨L,0,Y⟩),ha (X ⟨pe,0,Y⟩)] 27));have ay:Hid (TwC w FC FD w5 c L d d [(B,h2 #[ha (X ⟨c,0,Y⟩),ha (X ⟨p,0,Y⟩)] 27 (0,0)),(A,h2 #[J ce x,J ce y] 70 (0,0))] 0 0):=by
  have z3:=cP.o;have z4:=c5.size;have z5:=b2.size;have z1:=b1.size;have zb:=eq.o;have h8:=b7.size;have zB:=ae cm.o;have zA:=ae cg.o;have h9:=HA.o;have gb:=cz.cat.lt;refine ⟨(cz.cat.below c5.o).below b2.o,f5.cat,λk b T=>?_,λk hk=>?_,λq hq=>?_,⟨hp _,λk _ T=>absurd T (Nat.not_lt_zero _)⟩,c3.trans (b2.mono c3.size)⟩
  · have:=gb k b;have:=b8.o k (.inl T);omega
  · rcases hk with b|b
    · have:=cy.o k (.inl b);omega
    · have:=b8.o k (.inl b);omega
  · simp only [List.mem_cons,List.not_mem_nil,or_false] at hq;rcases hq with rfl|rfl
    · exact ⟨(b2.o.block B zB).trans cm.o,λhf=>by have:=gb B hf;omega,λhf=>by have:=b8.o B (.inl hf);omega⟩
    · have a1:w1.heap[A]? =_:=(cl.block A zA).trans cg.o;have a3:w3.heap[A]? =_:=(b7.block A (ae a1)).trans a1;have a4:w4.heap[A]? =_:=(c5.block A (ae a3)).trans a3;refine ⟨(b2.block A (ae a4)).trans a4,λhf=>?_,λhf=>?_⟩
      · have:=cy.o A (.inl hf);have:=ae a1;omega
      · have:=b8.o A (.inl hf);have:=ae a4;omega
 have fc:Hid (TwC w FC FD w6 c L d d [(D,h2 #[ha (X ⟨L,0,Y⟩),ha (X ⟨pe,0,Y⟩)] 27 (0,0)),(B,h2 #[ha (X ⟨c,0,Y⟩),ha (X ⟨p,0,Y⟩)] 27 (0,0)),(A,h2 #[J ce x,J ce y] 70 (0,0))] 0 0):=by have b:=(ay.lay (h2 #[ha (X ⟨L,0,Y⟩),ha (X ⟨pe,0,Y⟩)] 27) (λW=>hh W _)).1;rw [e4,hD] at b;exact b
 (try rw [hD])
 (try rw [e4])
 clear hD e4 ay cz b7 cy cP c3 c5 cm eq eg e9 f5 b2 b8 HA cg ch cl b1 e8 e7 c0;go_upto_region 6 with fail
 have ds:=ek n;have bk:=λW:ho=>ow n W hn;obtain ⟨⟨f,g⟩,hk⟩:∃k,recI n=k:=⟨_,rfl⟩;rw [hk] at ds bk;unfold recK at bk;dsimp only at bk;have HK:=Z ds;have ej:=Z bk;clear hk ds bk;go_upto_region 7 with (go_at_call 20;((with_reducible refine hg (ej.o _) ?_);rintro e w7 ⟨rfl,g9⟩;have er:=Z g9;clear g9))
 obtain ⟨R,hR⟩:=Qe w7.heap.size;obtain ⟨w8,e5⟩:=Qe (w7.alloc (h2 #[J U f,J U g] 36));have aC:Hid (TwC w FC FD w8 c L d d [(R,h2 #[J U f,J U g] 36 (0,0)),(D,h2 #[ha (X ⟨L,0,Y⟩),ha (X ⟨pe,0,Y⟩)] 27 (0,0)),(B,h2 #[ha (X ⟨c,0,Y⟩),ha (X ⟨p,0,Y⟩)] 27 (0,0)),(A,h2 #[J ce x,J ce y] 70 (0,0))] 0 0):=by have b:=((fc.below er.o).1.lay (h2 #[J U f,J U g] 36) (λW=>hh W _)).1;rw [e5,hR] at b;exact b
 (try rw [hR])
 (try rw [e5])
 clear hR e5 er fc ej;have a0:Cl w8 A 0 (J ce x):=(aC.cell (.tail _ (.tail _ (.tail _ (.head _)))) 0).trans rfl;have a1:Cl w8 A 1 (J ce y):=(aC.cell (.tail _ (.tail _ (.tail _ (.head _)))) 1).trans rfl;have h5:0<=x.tmod 10/\x.tmod 10<10:=⟨Int.tmod_nonneg _ hx.1,Int.tmod_lt_of_pos _ (by omega)⟩;have h6:0<=y.tmod 10/\y.tmod 10<10:=⟨Int.tmod_nonneg _ hy.1,Int.tmod_lt_of_pos _ (by omega)⟩;go_upto_region 9 with fail
 clear a0 a1 h5 h6;have gd:10<=10+x%10/\10+x%10<=19:=by omega
 have gi:10<=10+y%10/\10+y%10<=19:=by omega
 obtain ⟨dr,dd⟩:=Qe (10+x%10);obtain ⟨C,e1⟩:=Qe (10+y%10);rw [dd] at gd;rw [e1] at gi;(try rw [dd])
 (try rw [e1])
 clear dd e1;obtain ⟨d1,Q,q1,bv⟩:=zF gQ.ok f4.o (by decide) (f,g) gd.1 gi.1 rN.1;have ac:=Z bv;have c6:=f4.lv;have fl:Hid (d1.vs.length<=40):=by
  have b:=uf d (f,g) dr;rw [bv.drop] at b;rcases b with b|b
  · rw [show d1=d from b];exact c6
  · rw [show d1=_ from b];exact c6
 have d5:Hid (Q.vs.length<=41):=by
  have b:=sh d1 (f,g) C (bN cF);rw [bv.put] at b;have h0:=fl.o;rcases b with b|⟨_,b⟩
  · rw [show Q=d1 from b];exact hj h0 (by decide)
  · rw [show Q=_ from b];have:=dA (lt:=ltRK) d1.vs (f,g) (C,bN cF);show (insL ltRK d1.vs (f,g) (C,bN cF)).length<=41;omega
 have fp:Hid (q1.vs.length<=41):=by
  have b:=sh d (f,g) C (bN cF);rw [bv.put'] at b;rcases b with b|⟨_,b⟩
  · rw [show q1=d from b];exact hj c6 (by decide)
  · rw [show q1=_ from b];have:=dA (lt:=ltRK) d.vs (f,g) (C,bN cF);show (insL ltRK d.vs (f,g) (C,bN cF)).length<=41;omega
 clear bv c6;have gf:i64B dr:=by unfold i64B;omega
 have e0:i64B C:=by unfold i64B;omega
 have t0:Cl w8 B 0 (ha (X ⟨c,0,Y⟩)):=(aC.cell (.tail _ (.tail _ (.head _))) 0).trans rfl;have r0:Cl w8 R 0 (J U f):=(aC.cell (.head _) 0).trans rfl;have r1:Cl w8 R 1 (J U g):=(aC.cell (.head _) 1).trans rfl;have bs:=jf FC w8 c d aC.c1 (f,g) dr HK.o gf;rw [ac.o.drop] at bs;unfold recK at bs;dsimp only at bs;have b6:=Z bs;clear bs;go_upto_region 10 with (go_at_call 27;((with_reducible refine hg b6.o ?_);rintro e w9 ⟨rfl,F9,o,m⟩;have b3:=Z (aC.o.one o m).1;clear o m))
 clear b6 aC t0 r0 r1;have t0:Cl w9 B 0 (ha (X ⟨c,0,Y⟩)):=(b3.cell (.tail _ (.tail _ (.head _))) 0).trans rfl;have r0:Cl w9 R 0 (J U f):=(b3.cell (.head _) 0).trans rfl;have r1:Cl w9 R 1 (J U g):=(b3.cell (.head _) 1).trans rfl;have a7:=pE F9 w9 c d1 b3.c1 (hj fl.o (by decide)) (f,g) HK.o;rw [ac.o.gone] at a7;unfold recK at a7;dsimp only [Option.getD,Option.isSome] at a7;have b5:=Z a7;clear a7;go_upto_region 11 with (go_at_call 12;((with_reducible refine hg b5.o ?_);rintro e e6 ⟨bY,rfl,o,m⟩;have f9:=Z (b3.o.one o m).1;clear o m))
 clear b5 b3 t0 r0 r1;obtain ⟨a8,e2⟩:=Qe (e6.alloc (h2 #[J U 0,J U 0] 36));have b9:Hid (TwC w bY FD a8 c L d1 d [(R,h2 #[J U f,J U g] 36 (0,0)),(D,h2 #[ha (X ⟨L,0,Y⟩),ha (X ⟨pe,0,Y⟩)] 27 (0,0)),(B,h2 #[ha (X ⟨c,0,Y⟩),ha (X ⟨p,0,Y⟩)] 27 (0,0)),(A,h2 #[J ce x,J ce y] 70 (0,0))] 0 0):=by have b:=(f9.below ((hl _ e6).alloc (hm _) (h2 #[J U 0,J U 0] 36))).1;rw [e2] at b;exact b
 obtain ⟨G1,fy⟩:=Qe e6.heap.size;(try rw [fy])
 (try rw [e2])
 clear fy e2 f9;go_cut [18] (λt wx=>∃(V lo hi cc:Nat) (a:Option Addr),t=ha (X ⟨V,0,Y⟩)/\Hid (TwC w bY FD wx c L d1 d [(V,h2 #[J U f,J U g,J U C,J ce 97,J ce 109,hc a 2 cc] 64 (0,0)),(R,h2 #[J U f,J U g] 36 (0,0)),(D,h2 #[ha (X ⟨L,0,Y⟩),ha (X ⟨pe,0,Y⟩)] 27 (0,0)),(B,h2 #[ha (X ⟨c,0,Y⟩),ha (X ⟨p,0,Y⟩)] 27 (0,0)),(A,h2 #[J ce x,J ce y] 70 (0,0))] lo hi)/\Hid (ai lo hi wx (hc a 2 cc) (bN cF).fields))
 case first=>
  have a9:Hid (TwC w bY FD a8.drew c L d1 d [(R,h2 #[J U f,J U g] 36 (0,0)),(D,h2 #[ha (X ⟨L,0,Y⟩),ha (X ⟨pe,0,Y⟩)] 27 (0,0)),(B,h2 #[ha (X ⟨c,0,Y⟩),ha (X ⟨p,0,Y⟩)] 27 (0,0)),(A,h2 #[J ce x,J ce y] 70 (0,0))] 0 0):=(b9.below (hl _ a8).drew).1;go_wp2_with fail
  have h3:a8.drew.heap[R]? =X (h2 #[J U f,J U g] 36 (0,0)):=(a9.own _ (.head _)).1;refine wT (λW:ho=>Bk W R #[J U f,J U g] 36) 999 ?_;have c4:Hid (∀W:ho,Bk W R #[J U f,J U g] 36->Cl W R 0 (J U f)/\Cl W R 1 (J U g)):=λW h=>⟨(aa h 0).trans rfl,(aa h 1).trans rfl⟩;refine Qd [0,1] h3 c4 ?_;refine bS (i:=2) (j:=4) rfl rfl (by kernel_rfl) rfl rfl (λK u=>?_) (λK u=>?_)
  · go_simp;go_at_call 28;refine hg (show Calls prog 28 #[.string ⟨#[78,97,110,97]⟩] a8.drew _ from kp cF a8.drew) ?_;rintro e W1 ⟨M,N,rfl,hf,hb⟩;have ad:=Z (a9.win hb);have gP:=Z hf;clear hf hb;refine u _ _ (λ_=>(ad.own _ (.head _)).1) ?_;clear u K;go_simp;refine tkS 3 ?_ rfl (ad.own _ (.head _)).1 ?_ ?_;rotate_left;intro w' h;go_simp;rfl;try go_simp
    obtain ⟨V,hV⟩:=Qe W1.heap.size;obtain ⟨E,d8⟩:=Qe (W1.alloc (h2 #[J U 0,J U 0,J U 0,J ce 0,J ce 0,hc Y 0 0] 64));have b0:=ad.lay (h2 #[J U 0,J U 0,J U 0,J ce 0,J ce 0,hc Y 0 0] 64) (λW=>hh W _);rw [d8,hV] at b0;have r:=Z b0.1;have dk:=gP.o;rw [hV] at dk;have cu:=Z (dk.kept b0.2);clear dk;have a2:Hid (w.heap.size<=V/\(∀q∈([(R,h2 #[J U f,J U g] 36 (0,0)),(D,h2 #[ha (X ⟨L,0,Y⟩),ha (X ⟨pe,0,Y⟩)] 27 (0,0)),(B,h2 #[ha (X ⟨c,0,Y⟩),ha (X ⟨p,0,Y⟩)] 27 (0,0)),(A,h2 #[J ce x,J ce y] 70 (0,0))]:List (Nat×Obj)),q.1≠V)/\∀k,a8.drew.heap.size<=k->k<V->k≠V):=by
     refine ⟨?_,λq hq=>?_,λk _ h=>Nat.ne_of_lt h⟩
     · rw [<- hV];exact ad.o.bel.size
     · have:=ae (ad.own q hq).1;omega
    refine Dp 4 λK u=>?_;go_simp;try rw [hV]
    try rw [d8]
    refine u _ _ (λ_=>(r.own _ (.tail _ (.head _))).1) ?_;clear u K b0 hV d8;have n0:Cl E V 0 (J U 0):=(r.cell (.head _) 0).trans rfl;have n1:Cl E V 1 (J U 0):=(r.cell (.head _) 1).trans rfl;have n2:Cl E V 2 (J U 0):=(r.cell (.head _) 2).trans rfl;have n3:Cl E V 3 (J ce 0):=(r.cell (.head _) 3).trans rfl;have n4:Cl E V 4 (J ce 0):=(r.cell (.head _) 4).trans rfl;have n5:Cl E V 5 (hc Y 0 0):=(r.cell (.head _) 5).trans rfl;have g0:=ab (r.own _ (.head _)).1 0;have g1:=ab (r.own _ (.head _)).1 1;have g2:=ab (r.own _ (.head _)).1 2;have g3:=ab (r.own _ (.head _)).1 3;have g4:=ab (r.own _ (.head _)).1 4;have g5:=ab (r.own _ (.head _)).1 5;refine Dp 5 λK u=>?_;go_simp;obtain ⟨z,al⟩:=Qe ((((((E.setCell ⟨V,0,Y⟩ (J U f)).setCell ⟨V,1,Y⟩ (J U g)).setCell ⟨V,2,Y⟩ (J U C)).setCell ⟨V,3,Y⟩ (J ce 97)).setCell ⟨V,4,Y⟩ (J ce 109)).setCell ⟨V,5,Y⟩ (hc M 2 N));have d6:z.heap[V]? =X (h2 #[J U f,J U g,J U C,J ce 97,J ce 109,hc M 2 N] 64 (0,0)):=by rw [<- al];exact am (am (am (am (am (am (r.o.own _ (.head _)).1 0 _) 1 _) 2 _) 3 _) 4 _) 5 _
    have bA:∀k,k≠V->z.heap[k]? =E.heap[k]? :=λk hk=>by rw [<- al,he _ _ _ _ hk,he _ _ _ _ hk,he _ _ _ _ hk,he _ _ _ _ hk,he _ _ _ _ hk,he _ _ _ _ hk]
    have dc:Below w.heap.size E z:=by rw [<- al];exact ((((((hl _ E).setCell (p:=⟨V,0,Y⟩) a2.o.1 _).setCell (p:=⟨V,1,Y⟩) a2.o.1 _).setCell (p:=⟨V,2,Y⟩) a2.o.1 _).setCell (p:=⟨V,3,Y⟩) a2.o.1 _).setCell (p:=⟨V,4,Y⟩) a2.o.1 _).setCell (p:=⟨V,5,Y⟩) a2.o.1 _
    have ay:=Z (r.over d6 bA a2.2.1 dc);have cx:=Z (cu.kept (λk b T=>bA k (a2.2.2 k b T)));try rw [al]
    refine u _ _ (λ_=>(ay.own _ (.tail _ (.head _))).1) ?_;clear u K;refine dN ?_;go_wp2_with fail
    go_meet;exact ⟨V,_,_,N,M,rfl,ay,cx⟩
  · go_simp;obtain ⟨V,hV⟩:=Qe a8.heap.size;obtain ⟨W1,d7⟩:=Qe ((a8.alloc (h2 #[J U 0,J U 0,J U 0,J ce 0,J ce 0,hc Y 0 0] 64)).drew);have b0:=b9.lay (h2 #[J U 0,J U 0,J U 0,J ce 0,J ce 0,hc Y 0 0] 64) (λW=>hh W _);have dy:=b0.1.below (hl _ _).drew;rw [d7,hV] at dy;have ad:=Z dy.1;have fr:Hid (w.heap.size<=V/\∀q∈([(R,h2 #[J U f,J U g] 36 (0,0)),(D,h2 #[ha (X ⟨L,0,Y⟩),ha (X ⟨pe,0,Y⟩)] 27 (0,0)),(B,h2 #[ha (X ⟨c,0,Y⟩),ha (X ⟨p,0,Y⟩)] 27 (0,0)),(A,h2 #[J ce x,J ce y] 70 (0,0))]:List (Nat×Obj)),q.1≠V):=by
     refine ⟨?_,λq hq=>?_⟩
     · rw [<- hV];exact b9.o.bel.size
     · have:=ae (b9.own q hq).1;omega
    try rw [hV]
    try rw [d7]
    refine u _ _ (λ_=>(ad.own _ (.tail _ (.head _))).1) ?_;clear u K b0 dy hV d7;refine Dp 2 λK u=>?_;go_simp;go_at_call 28;refine hg (show Calls prog 28 #[.string ⟨#[78,97,110,97]⟩] W1 _ from kp cF W1) ?_;rintro e E ⟨M,N,rfl,hf,hb⟩;have r:=Z (ad.win hb);have cu:=Z hf;have a2:Hid (w.heap.size<=V/\(∀q∈([(R,h2 #[J U f,J U g] 36 (0,0)),(D,h2 #[ha (X ⟨L,0,Y⟩),ha (X ⟨pe,0,Y⟩)] 27 (0,0)),(B,h2 #[ha (X ⟨c,0,Y⟩),ha (X ⟨p,0,Y⟩)] 27 (0,0)),(A,h2 #[J ce x,J ce y] 70 (0,0))]:List (Nat×Obj)),q.1≠V)/\∀k,W1.heap.size<=k->k<E.heap.size->k≠V):=⟨fr.o.1,fr.o.2,λk b _=>by have:=ae (ad.o.own _ (.head _)).1;dsimp only at this;omega⟩;clear hf hb;refine u _ _ (λ_=>(r.own _ (.tail _ (.head _))).1) ?_;clear u K;go_simp;refine Dp 3 λK u=>?_;go_simp;refine u _ _ (λ_=>(r.own _ (.tail _ (.head _))).1) ?_;clear u K;have n0:Cl E V 0 (J U 0):=(r.cell (.head _) 0).trans rfl;have n1:Cl E V 1 (J U 0):=(r.cell (.head _) 1).trans rfl;have n2:Cl E V 2 (J U 0):=(r.cell (.head _) 2).trans rfl;have n3:Cl E V 3 (J ce 0):=(r.cell (.head _) 3).trans rfl;have n4:Cl E V 4 (J ce 0):=(r.cell (.head _) 4).trans rfl;have n5:Cl E V 5 (hc Y 0 0):=(r.cell (.head _) 5).trans rfl;have g0:=ab (r.own _ (.head _)).1 0;have g1:=ab (r.own _ (.head _)).1 1;have g2:=ab (r.own _ (.head _)).1 2;have g3:=ab (r.own _ (.head _)).1 3;have g4:=ab (r.own _ (.head _)).1 4;have g5:=ab (r.own _ (.head _)).1 5;refine Dp 5 λK u=>?_;go_simp;obtain ⟨z,al⟩:=Qe ((((((E.setCell ⟨V,0,Y⟩ (J U f)).setCell ⟨V,1,Y⟩ (J U g)).setCell ⟨V,2,Y⟩ (J U C)).setCell ⟨V,3,Y⟩ (J ce 97)).setCell ⟨V,4,Y⟩ (J ce 109)).setCell ⟨V,5,Y⟩ (hc M 2 N));have d6:z.heap[V]? =X (h2 #[J U f,J U g,J U C,J ce 97,J ce 109,hc M 2 N] 64 (0,0)):=by rw [<- al];exact am (am (am (am (am (am (r.o.own _ (.head _)).1 0 _) 1 _) 2 _) 3 _) 4 _) 5 _
    have bA:∀k,k≠V->z.heap[k]? =E.heap[k]? :=λk hk=>by rw [<- al,he _ _ _ _ hk,he _ _ _ _ hk,he _ _ _ _ hk,he _ _ _ _ hk,he _ _ _ _ hk,he _ _ _ _ hk]
    have dc:Below w.heap.size E z:=by rw [<- al];exact ((((((hl _ E).setCell (p:=⟨V,0,Y⟩) a2.o.1 _).setCell (p:=⟨V,1,Y⟩) a2.o.1 _).setCell (p:=⟨V,2,Y⟩) a2.o.1 _).setCell (p:=⟨V,3,Y⟩) a2.o.1 _).setCell (p:=⟨V,4,Y⟩) a2.o.1 _).setCell (p:=⟨V,5,Y⟩) a2.o.1 _
    have ay:=Z (r.over d6 bA a2.2.1 dc);have cx:=Z (cu.kept (λk b T=>bA k (a2.2.2 k b T)));try rw [al]
    refine u _ _ (λ_=>(ay.own _ (.tail _ (.head _))).1) ?_;clear u K;refine dN ?_;go_wp2_with fail
    go_meet;exact ⟨V,_,_,N,M,rfl,ay,cx⟩
 case rest=>
  obtain ⟨V,lo,hi,N,M,rfl,a5,cp⟩:=hcut;clear b9;have gt:bH (bN cF).fields:=il cF (by decide);have cQ:=Z gt;clear gt;have t0:Cl wc B 0 (ha (X ⟨c,0,Y⟩)):=(a5.cell (.tail _ (.tail _ (.tail _ (.head _)))) 0).trans rfl;have v0:Cl wc V 0 (J U f):=(a5.cell (.head _) 0).trans rfl;have v1:Cl wc V 1 (J U g):=(a5.cell (.head _) 1).trans rfl;have v2:Cl wc V 2 (J U C):=(a5.cell (.head _) 2).trans rfl;have v3:Cl wc V 3 (J ce 97):=(a5.cell (.head _) 3).trans rfl;have v4:Cl wc V 4 (J ce 109):=(a5.cell (.head _) 4).trans rfl;have v5:Cl wc V 5 (hc M 2 N):=(a5.cell (.head _) 5).trans rfl;have aT:=jw bY wc c d1 a5.c1 (f,g) C (bN cF) (hc M 2 N) HK.o e0 lo hi cp.o a5.mid.1 (λq b T=>(a5.mid.2 q b T).1) cQ.o;rw [ac.o.put] at aT;have ax:Hid (Calls prog 29 #[ha (X ⟨c,0,Y⟩), .agg #[J U f,J U g,J U C,J ce 97,J ce 109,hc M 2 N]] wc _):=aT;clear aT;go_upto_region 13 with (go_at_call 29;((with_reducible refine hg ax.o ?_);rintro e au ⟨rfl,gx,o,m⟩;have a6:=Z (a5.o.one o m).1;have cq:=Z (cp.o.kept (a5.o.one o m).2);clear o m))
  clear ax a5 cp t0 v0 v1 v2 v3 v4 v5;have t0:Cl au D 0 (ha (X ⟨L,0,Y⟩)):=(a6.cell (.tail _ (.tail _ (.head _))) 0).trans rfl;have v0:Cl au V 0 (J U f):=(a6.cell (.head _) 0).trans rfl;have v1:Cl au V 1 (J U g):=(a6.cell (.head _) 1).trans rfl;have v2:Cl au V 2 (J U C):=(a6.cell (.head _) 2).trans rfl;have v3:Cl au V 3 (J ce 97):=(a6.cell (.head _) 3).trans rfl;have v4:Cl au V 4 (J ce 109):=(a6.cell (.head _) 4).trans rfl;have v5:Cl au V 5 (hc M 2 N):=(a6.cell (.head _) 5).trans rfl;have aT:=jw FD au L d a6.c2 (f,g) C (bN cF) (hc M 2 N) HK.o e0 lo hi cq.o a6.mid.1 (λq b T=>(a6.mid.2 q b T).2) cQ.o;rw [ac.o.put'] at aT;have ax:Hid (Calls prog 29 #[ha (X ⟨L,0,Y⟩), .agg #[J U f,J U g,J U C,J ce 97,J ce 109,hc M 2 N]] au _):=aT;clear aT;go_upto_region 14 with (go_at_call 29;((with_reducible refine hg ax.o ?_);rintro e cb ⟨rfl,gy,o,m⟩;have aS:=Z (a6.o.two o m).1;have ex:=Z (cq.o.kept (a6.o.two o m).2);clear o m))
  clear ax a6 cq t0 v0 v1 v2 v3 v4 v5;have t0:Cl cb B 0 (ha (X ⟨c,0,Y⟩)):=(aS.cell (.tail _ (.tail _ (.tail _ (.head _)))) 0).trans rfl;have r0:Cl cb R 0 (J U f):=(aS.cell (.tail _ (.head _)) 0).trans rfl;have r1:Cl cb R 1 (J U g):=(aS.cell (.tail _ (.head _)) 1).trans rfl;have a7:=pE gx cb c Q aS.c1 (hj d5.o (by decide)) (f,g) HK.o;rw [ac.o.back] at a7;obtain ⟨⟨s1,s2⟩,gq⟩:∃s,(titleC Q (f,g)).getD (0,0)=s:=⟨_,rfl⟩;rw [gq] at a7;unfold recK at a7;dsimp only at a7;have b5:=Z a7;clear a7 gq;go_upto_region 15 with (go_at_call 12;((with_reducible refine hg b5.o ?_);rintro e cd ⟨gz,rfl,o,m⟩;have d0:=Z (aS.o.one o m).1;have eQ:=Z (ex.o.kept (aS.o.one o m).2);clear o m))
  clear b5 aS ex t0 r0 r1;obtain ⟨av,e3⟩:=Qe (cd.alloc (h2 #[J U s1,J U s2] 36));have d9:Bw cd av:=by rw [<- e3];exact (hl _ cd).alloc (hm _) _
  have d3:=Z (d0.below d9).1;have f0:=Z (eQ.kept (d0.below d9).2);obtain ⟨G2,fz⟩:=Qe cd.heap.size;(try rw [fz])
  (try rw [e3])
  clear fz e3 d9 d0 eQ;have a9:=Z (d3.below (hl _ av).drew).1;have es:=Z (f0.kept (d3.below (hl _ av).drew).2);clear d3 f0;go_wp2_with fail
  have g6:av.drew.heap[B]? =X (h2 #[ha (X ⟨c,0,Y⟩),ha (X ⟨p,0,Y⟩)] 27 (0,0))/\av.drew.heap[D]? =X (h2 #[ha (X ⟨L,0,Y⟩),ha (X ⟨pe,0,Y⟩)] 27 (0,0)):=⟨(a9.own _ (.tail _ (.tail _ (.tail _ (.head _))))).1,(a9.own _ (.tail _ (.tail _ (.head _)))).1⟩;refine wT (λW:ho=>Bk W B #[ha (X ⟨c,0,Y⟩),ha (X ⟨p,0,Y⟩)] 27/\Bk W D #[ha (X ⟨L,0,Y⟩),ha (X ⟨pe,0,Y⟩)] 27) 999 ?_;have c4:Hid (∀W:ho,Bk W B #[ha (X ⟨c,0,Y⟩),ha (X ⟨p,0,Y⟩)] 27/\Bk W D #[ha (X ⟨L,0,Y⟩),ha (X ⟨pe,0,Y⟩)] 27->Cl W B 0 (ha (X ⟨c,0,Y⟩))/\Cl W D 0 (ha (X ⟨L,0,Y⟩))):=λW h=>⟨(aa h.1 0).trans rfl,(aa h.2 0).trans rfl⟩;refine Qd [0,1,3,4] g6 c4 ?_;refine Dp 2 λK u=>?_;go_simp;go_at_call 15;refine hg (tN gz av.drew c Q a9.c1 (hj d5.o (by decide))) ?_;rintro e W1 ⟨ra,FA,rfl,o,m,bO,_⟩;have b4:=Z (a9.one o m).1;have f2:=Z (es.kept (a9.one o m).2);have gn:fY av.drew.heap.size W1.heap.size W1 ra (sameC Q):=bf bO;have f6:=Z gn;clear o m bO gn;refine u _ _ (λ_=>⟨(b4.own _ (.tail _ (.tail _ (.tail _ (.head _))))).1,(b4.own _ (.tail _ (.tail _ (.head _)))).1⟩) ?_;clear u K;go_simp;refine Dp 5 λK u=>?_;go_simp;go_at_call 15;refine hg (tN gy W1 L q1 b4.c2 (hj fp.o (by decide))) ?_;rintro e E ⟨rb,FE,rfl,o,m,bO,_⟩;have bb:=Z (b4.two o m).1;have f3:=Z (f2.kept (b4.two o m).2);have gp:fY W1.heap.size E.heap.size E rb (sameC q1):=bf bO;have f7:=Z (fY.kept f6.o (λk b T=>m.block k T (λhf=>by have:=a9.o.c2.lt k hf;omega)));have f8:=Z (mA ra rb (sameC Q) (sameC q1) E (aF.mono f7.o (hp _) m.size) (aF.mono gp (hp _) (hm _)) (by rw [gu];have:=eV (d:=Q);have:=d5.o;omega) (by rw [gu];have:=eV (d:=q1);have:=fp.o;omega));clear o m bO gp f6 f7;refine u _ _ (λ_=>⟨(bb.own _ (.tail _ (.tail _ (.tail _ (.head _))))).1,(bb.own _ (.tail _ (.tail _ (.head _)))).1⟩) ?_;clear u K;go_simp;refine Dp 6 λK u=>?_;go_simp;go_at_call 14;with_reducible refine hg f8.o ?_
  rintro e W3 ⟨rfl,hb⟩;have O:=Z (bb.below hb).1;have f1:=Z (f3.kept (bb.below hb).2);clear hb f8;refine u _ _ (λ_=>⟨(O.own _ (.tail _ (.tail _ (.tail _ (.head _))))).1,(O.own _ (.tail _ (.tail _ (.head _)))).1⟩) ?_;clear u K;go_simp;refine Dp 7 λK u=>?_;go_simp;refine u _ _ (λ_=>⟨(O.own _ (.tail _ (.tail _ (.tail _ (.head _))))).1,(O.own _ (.tail _ (.tail _ (.head _)))).1⟩) ?_;clear u K;refine dN ?_;clear b4 f2 bb f3 a9 es g6 c4;go_upto_region 16 with fail
  have h4:i64B (dr - 1):=by unfold i64B;omega
  have b6:Hid (∀(F:Nat->Prop) (W:ho),be F W c Q->Calls prog 27 #[ha (X ⟨c,0,Y⟩), .agg #[J U f,J U g],J U dr] W λe w'=>e=fn (J U 22)/\∃F',be F' w' c Q/\ag F W F' w'):=λF W h=>by have b:=jf F W c Q h (f,g) dr HK.o gf;rw [ac.o.twice] at b;exact b
  have em:Hid (∀(F:Nat->Prop) (W:ho),be F W c Q->Calls prog 27 #[ha (X ⟨c,0,Y⟩), .agg #[J U f,J U g],J U (dr - 1)] W λe w'=>e=fn (J U 30)/\∃F',be F' w' c Q/\ag F W F' w'):=λF W h=>by have b:=jf F W c Q h (f,g) (dr - 1) HK.o h4;rw [ac.o.old] at b;exact b
  have ax:Hid (∀(F:Nat->Prop) (W:ho),be F W c Q->ai lo hi W (hc M 2 N) (bN cF).fields->hi<=W.heap.size->(∀q,lo<=q->q<hi->¬F q)->Calls prog 29 #[ha (X ⟨c,0,Y⟩), .agg #[J U f,J U g,J U C,J ce 97,J ce 109,hc M 2 N]] W λe w'=>e=fn (J U 22)/\∃F',be F' w' c Q/\ag F W F' w'):=λF W h hf b T=>by have b:=jw F W c Q h (f,g) C (bN cF) (hc M 2 N) HK.o e0 lo hi hf b T cQ.o;rw [ac.o.again] at b;exact b
  have t0:Cl W3 B 0 (ha (X ⟨c,0,Y⟩)):=(O.cell (.tail _ (.tail _ (.tail _ (.head _)))) 0).trans rfl;have r0:Cl W3 R 0 (J U f):=(O.cell (.tail _ (.head _)) 0).trans rfl;have r1:Cl W3 R 1 (J U g):=(O.cell (.tail _ (.head _)) 1).trans rfl;have v0:Cl W3 V 0 (J U f):=(O.cell (.head _) 0).trans rfl;have v1:Cl W3 V 1 (J U g):=(O.cell (.head _) 1).trans rfl;have v2:Cl W3 V 2 (J U C):=(O.cell (.head _) 2).trans rfl;have v3:Cl W3 V 3 (J ce 97):=(O.cell (.head _) 3).trans rfl;have v4:Cl W3 V 4 (J ce 109):=(O.cell (.head _) 4).trans rfl;have v5:Cl W3 V 5 (hc M 2 N):=(O.cell (.head _) 5).trans rfl;by_cases hle:dr<=C
  · have gs:=ac.same hle;rw [decide_eq_true hle,decide_eq_true gs];have h7:¬C<dr:=by omega
    clear gs
    go_wp2_with (first
     |(go_at_call 27;(with_reducible refine hg (b6.o _ _ O.o.c1) ?_);rintro e P ⟨rfl,FK,o,m⟩;have I:=Z (O.o.one o m).1;have cs:=Z (f1.o.kept (O.o.one o m).2);clear o m t0 r0 r1 v0 v1 v2 v3 v4 v5;have t0:Cl P B 0 (ha (X ⟨c,0,Y⟩)):=(I.o.cell (.tail _ (.tail _ (.tail _ (.head _)))) 0).trans rfl;have r0:Cl P R 0 (J U f):=(I.o.cell (.tail _ (.head _)) 0).trans rfl;have r1:Cl P R 1 (J U g):=(I.o.cell (.tail _ (.head _)) 1).trans rfl;have v0:Cl P V 0 (J U f):=(I.o.cell (.head _) 0).trans rfl;have v1:Cl P V 1 (J U g):=(I.o.cell (.head _) 1).trans rfl;have v2:Cl P V 2 (J U C):=(I.o.cell (.head _) 2).trans rfl;have v3:Cl P V 3 (J ce 97):=(I.o.cell (.head _) 3).trans rfl;have v4:Cl P V 4 (J ce 109):=(I.o.cell (.head _) 4).trans rfl;have v5:Cl P V 5 (hc M 2 N):=(I.o.cell (.head _) 5).trans rfl)
     |(go_at_call 27;(with_reducible refine hg (em.o _ _ I.o.c1) ?_);rintro e z ⟨rfl,FL,o,m⟩;have G:=Z (I.o.one o m).1;have cv:=Z (cs.o.kept (I.o.one o m).2);clear o m t0 r0 r1 v0 v1 v2 v3 v4 v5;have t0:Cl z B 0 (ha (X ⟨c,0,Y⟩)):=(G.o.cell (.tail _ (.tail _ (.tail _ (.head _)))) 0).trans rfl;have r0:Cl z R 0 (J U f):=(G.o.cell (.tail _ (.head _)) 0).trans rfl;have r1:Cl z R 1 (J U g):=(G.o.cell (.tail _ (.head _)) 1).trans rfl;have v0:Cl z V 0 (J U f):=(G.o.cell (.head _) 0).trans rfl;have v1:Cl z V 1 (J U g):=(G.o.cell (.head _) 1).trans rfl;have v2:Cl z V 2 (J U C):=(G.o.cell (.head _) 2).trans rfl;have v3:Cl z V 3 (J ce 97):=(G.o.cell (.head _) 3).trans rfl;have v4:Cl z V 4 (J ce 109):=(G.o.cell (.head _) 4).trans rfl;have v5:Cl z V 5 (hc M 2 N):=(G.o.cell (.head _) 5).trans rfl)
     |(go_at_call 29;(with_reducible refine hg (ax.o _ _ G.o.c1 cv.o G.o.mid.1 (λq b T=>(G.o.mid.2 q b T).1)) ?_);rintro e W6 ⟨rfl,gO,o,m⟩;have d4:=Z (G.o.one o m).1;clear o m))
    go_ret;exact ⟨rfl,d4.bel⟩
  · rw [decide_eq_false hle];have h7:C<dr:=by omega
    generalize decide (sameC Q=sameC q1)=sb
    go_wp2_with (first
     |(go_at_call 27;(with_reducible refine hg (b6.o _ _ O.o.c1) ?_);rintro e P ⟨rfl,FK,o,m⟩;have I:=Z (O.o.one o m).1;have cs:=Z (f1.o.kept (O.o.one o m).2);clear o m t0 r0 r1 v0 v1 v2 v3 v4 v5;have t0:Cl P B 0 (ha (X ⟨c,0,Y⟩)):=(I.o.cell (.tail _ (.tail _ (.tail _ (.head _)))) 0).trans rfl;have r0:Cl P R 0 (J U f):=(I.o.cell (.tail _ (.head _)) 0).trans rfl;have r1:Cl P R 1 (J U g):=(I.o.cell (.tail _ (.head _)) 1).trans rfl;have v0:Cl P V 0 (J U f):=(I.o.cell (.head _) 0).trans rfl;have v1:Cl P V 1 (J U g):=(I.o.cell (.head _) 1).trans rfl;have v2:Cl P V 2 (J U C):=(I.o.cell (.head _) 2).trans rfl;have v3:Cl P V 3 (J ce 97):=(I.o.cell (.head _) 3).trans rfl;have v4:Cl P V 4 (J ce 109):=(I.o.cell (.head _) 4).trans rfl;have v5:Cl P V 5 (hc M 2 N):=(I.o.cell (.head _) 5).trans rfl)
     |(go_at_call 27;(with_reducible refine hg (em.o _ _ I.o.c1) ?_);rintro e z ⟨rfl,FL,o,m⟩;have G:=Z (I.o.one o m).1;have cv:=Z (cs.o.kept (I.o.one o m).2);clear o m t0 r0 r1 v0 v1 v2 v3 v4 v5;have t0:Cl z B 0 (ha (X ⟨c,0,Y⟩)):=(G.o.cell (.tail _ (.tail _ (.tail _ (.head _)))) 0).trans rfl;have r0:Cl z R 0 (J U f):=(G.o.cell (.tail _ (.head _)) 0).trans rfl;have r1:Cl z R 1 (J U g):=(G.o.cell (.tail _ (.head _)) 1).trans rfl;have v0:Cl z V 0 (J U f):=(G.o.cell (.head _) 0).trans rfl;have v1:Cl z V 1 (J U g):=(G.o.cell (.head _) 1).trans rfl;have v2:Cl z V 2 (J U C):=(G.o.cell (.head _) 2).trans rfl;have v3:Cl z V 3 (J ce 97):=(G.o.cell (.head _) 3).trans rfl;have v4:Cl z V 4 (J ce 109):=(G.o.cell (.head _) 4).trans rfl;have v5:Cl z V 5 (hc M 2 N):=(G.o.cell (.head _) 5).trans rfl)
     |(go_at_call 29;(with_reducible refine hg (ax.o _ _ G.o.c1 cv.o G.o.mid.1 (λq b T=>(G.o.mid.2 q b T).1)) ?_);rintro e W6 ⟨rfl,gO,o,m⟩;have d4:=Z (G.o.one o m).1;clear o m))
    go_ret;exact ⟨rfl,d4.bel⟩
end
section
open Go.ChangeShapes Go.WideShapes Go.ChangeAt Go.RowKit Go.Deep
section
variable {H:Type} {enc:TypeId×Value->H} {W W':ho} {v:Value} {d:DataW H} {ps:List MemPlace}
theorem A3 {z:Int} (h:(Lit.int ce z).wf=true):0<=z/\z<256:=by
 simp only [Lit.wf,IntKind.min,IntKind.max,IntKind.signed,IntKind.bits] at h;simp at h;omega
theorem AB {base:Nat} {e:Nat->Bool} {c:Bool} {b:Nat} {a:List Value} {x:DataW H×List MemPlace} (h:DataW.trod enc prog W base e c b 5 a=X x):
 ∃z:Int,a=[J ce z]/\(0<=z/\z<256):=by
 obtain ⟨n,rfl,_,h⟩:=DataW.trod_int underlying5 h;exact ⟨n,rfl,A3 h⟩
theorem AQ:prog.cellsOf 5=1:=by kernel_rfl
theorem zP:prog.cellsOf 70=2:=by kernel_rfl
theorem AU {a:List Value} {o:Nat} {z:Int} (h:(a.drop o).take 1=[J ce z]):a[o]? =X (J ce z):=by
 have b:=congrArg (·[0]?) h;simpa [List.getElem?_take,List.getElem?_drop] using b
theorem open_bytes2 {base:Nat} (k:Value.okWide prog W .any base 70 v) (h:DataW.Trod enc prog W 0 (λ_=>true) true 70 v d ps):
 ∃a b:Int,v= .agg #[J ce a,J ce b]/\(0<=a/\a<256)/\(0<=b/\b<256):=by
 have s:∃e,v= .agg e:=by simp only [Value.okWide,underlying70] at k;obtain ⟨e,f,_⟩:=k;exact ⟨e,f⟩
 obtain ⟨e,rfl⟩:=s;obtain ⟨A,q⟩:=h;obtain ⟨w,m,rfl,_,j,B,o⟩:=DataW.trod_array underlying70 q;rw [zP] at j;have key:∀i,i<2->∃z:Int,e.toList[i]? =X (J ce z)/\(0<=z/\z<256):=by intro i r;have f:=o i r;rw [AQ,Nat.mul_one] at f;obtain ⟨y,t⟩:∃y,w[i]? =X y:=⟨_,List.getElem?_eq_getElem (by omega)⟩;rw [t] at f;obtain ⟨z,u,c⟩:=AB f;exact ⟨z,AU u,c⟩
 obtain ⟨a,g,n⟩:=key 0 (by omega);obtain ⟨b,c,p⟩:=key 1 (by omega);refine ⟨a,b,?_,n,p⟩;obtain ⟨l⟩:=e;simp only [Value.cells] at j g c;match l,j,g,c with
 |[x,y],_,g,c=>simp at g c;subst g c;rfl
end
end
end Go.Proofs.YtjcimanddakkaaaGreatDoor
