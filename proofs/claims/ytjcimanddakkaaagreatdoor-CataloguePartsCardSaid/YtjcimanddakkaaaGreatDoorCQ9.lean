/- Lemmas. -/
import Derived.Test.YtjcimanddakkaaaGreatDoorCQ7
set_option maxRecDepth 100000
set_option maxHeartbeats 8000000
namespace Go.Proofs.YtjcimanddakkaaaGreatDoor
open Go.Value renaming int→J,bool→e4,pointer→e6,map→e8,slice→e9
open Go.IntKind renaming i64→U
open _root_.Option renaming some→X,none→Y
open Go.Obj renaming cells→e5
open Go.Ending renaming returned→e7
open Go.Lib renaming hid→Z
open Tryz
open _root_.Nat renaming le_refl→ej,reduceSub→gt,reduceAdd→gx,le_trans→g8
open Go.Value renaming int→em,ownBlock→gP
open Go.World renaming putObj_heap_other→er,alloc_heap_new→ex,size_alloc→hj,putObj_heap_same→hz,ownsRow_nil→hI
open _root_.Array renaming replicate_zero→eQ,replicate_succ→fb,getElem?_eq_none→hA
open _root_.List renaming length_cons→fl,append_toArray→fr,length_map→fs,length_append→ft,size_toArray→fy,push_toArray→fz,nil_append→gb,cons_append→gd,length_nil→gi,length_pos_of_mem→gO,getElem?_eq_getElem→g9,append_assoc→hd,map_cons→hq,eq_nil_of_length_eq_zero→hr,mem_cons_self→hJ
open Go.RowKit.Below renaming refl→fp,heap_alloc→gp,heap_setCell→g6
open Go renaming World→fx,Value→gs,callsIn_of_wp→g7,Calls→ht,results_none→hv,bodyPost_ret→hw,KeepsOthers→hC
open _root_.Bool renaming not_eq_true'→gn
open Go.Fence renaming wide→gq
open Go.ChangeMaps renaming setBlock→gy
open Go.KeepsOthers renaming alloc→gz
open Go.Calls renaming mono→gQ
open Go.Obj renaming cells→he
open Go.Result renaming andThen→hu
open Go.WideAt renaming sameKey_self→hH
section
open Go.RowKit Go.Maps Go.Shelf
theorem q36(b c d e:Int)(w:fx):(binOp .eql 36 (.agg #[J U b,J U c]) (.agg #[J U d,J U e])).run prog w=.ok (e4 (decide ((b,c)=(d,e)))) w:=by
 by_cases h1:b=d
 .by_cases h2:c=e
  .subst h1;subst h2;go_simp
  subst h1;go_simp
 go_simp
theorem CZ(b:Int)(d:Bool)(c:Int)(e:Bool)(w:fx):(binOp .eql 139 (.agg #[J U b,e4 d]) (.agg #[J U c,e4 e])).run prog w=.ok (e4 (decide (b=c)&&decide (d=e))) w:=by
 by_cases h1:b=c
 .subst h1;cases d<;>cases e<;>go_simp
 go_simp
theorem dm{w:fx}{b t:Nat}{x y:gs}(h:w.heap[b]?=X (e5 #[x,y] t (0,0))):w.cell? ⟨b,0,Y⟩=X x/\w.cell? ⟨b,1,Y⟩=X y:=⟨(aa h 0).trans rfl,(aa h 1).trans rfl⟩
theorem nB{w:fx}{b t:Nat}{x y z u:gs}(h:w.heap[b]?=X (e5 #[x,y,z,u] t (0,0))):w.cell? ⟨b,0,Y⟩=X x/\w.cell? ⟨b,1,Y⟩=X y/\w.cell? ⟨b,2,Y⟩=X z/\w.cell? ⟨b,3,Y⟩=X u:=⟨(aa h 0).trans rfl,(aa h 1).trans rfl,(aa h 2).trans rfl,(aa h 3).trans rfl⟩
def el(d:ar)(p:PK)(n:Int)(j:Bool):Int:=bg (findK d.ps p).isSome (decide (((findK d.ps p).getD (0,false)).1=n)&&decide (((findK d.ps p).getD (0,false)).2=j)) ((findK d.ps p).getD (0,false)).1 n d.ps.length
theorem kr(d:ar)(a b:RK)(n:Int)(j:Bool)(c:a≠b):decideC d a b n j=if el d (pairK a b) n j=0 then({d with ps:=insL ltPK d.ps (pairK a b) (n,j)},0)else(d,el d (pairK a b) n j):=by
 unfold decideC el;rw[if_neg c];cases findK d.ps (pairK a b)with
 |none=>simp only[Option.isSome_none,Option.getD_none];rw[mr (decide (0=n)&&decide (false=j))]
 |some m=>rfl
theorem pO{a b:RK}(c:rkOk a)(d:rkOk b):pkOk (pairK a b):=by
 unfold pairK;split
 .exact⟨d,c⟩
 exact⟨c,d⟩
theorem AF{a b:RK}(h:a≠b):ltRK (pairK a b).1 (pairK a b).2=true:=by
 unfold pairK;split
 .assumption
 rename_i d;rcases aW.tot a b h with c|c
 .exact c
 exact absurd c d
theorem bi.decide{d:ar}(h:bi d){a b:RK}{n:Int}{j:Bool}(e:a≠b)(c:rkOk a)(f:rkOk b)(hn:i64B n)(i:el d (pairK a b) n j=0):bi {d with ps:=insL ltPK d.ps (pairK a b) (n,j)}:=by
 refine⟨⟨h.ok.vs,h.ok.ds,eP dG h.ok.ps _ _,cR dG h.ok.ps h.ok.apart (AF e)⟩,h.vlen,h.dlen,?_,h.right,h.vnum,h.dnum,cR dG h.ok.ps h.pnum hn,h.vkey,h.dkey,cR dG h.ok.ps h.pkey (pO c f)⟩;exact p9 dG h.ok.ps _ _ h.plen λg=>fZ i g
theorem dU.put3{F:Nat->Prop}{w j:fx}{c a b e:Nat}{G:gs}{d:ar}{ps:List (PK×(Int×Bool))}(h:dU F w c (X a) (X b) (X e) G d)(r:az e w j)(i:ak pairB j e (ps.map λp=>(p.1,gE p.2)))(D:bi {d with ps:=ps}):
 dU F (j.setCell ⟨c,3,Y⟩ (e6 Y)) c (X a) (X b) (X e) (e6 Y) {d with ps:=ps}:=by
 have A:c≠b:=λe=>(aj (show ak recB w b _ from h.ds) h.blk) e.symm;have z:c≠a:=λe=>by obtain⟨ps,_,g,_⟩:=h.vs;exact(aj (show ak recB w a _ from g) h.blk) e.symm
 have v:c≠e:=λs=>(aj (show ak pairB w e _ from h.ps) h.blk) s.symm;rcases h.one with⟨f,_⟩|⟨H,I,s,f,g,l,y,t,u⟩
 .cases f
 injection f with f;injection g with g;injection l with l
 subst f;subst g;subst l;have q:∀k,k≠c->k≠e->(j.setCell ⟨c,3,Y⟩ (e6 Y)).heap[k]?=w.heap[k]?:=λk f g=>(g6 _ _ _ _ f).trans (r.block k g);have E:(j.setCell ⟨c,3,Y⟩ (e6 Y)).heap.size=w.heap.size:=by rw[World.size_setCell,r.size]
 refine⟨?_,h.vs.step (λm i=>by injection i with i;subst i;exact q _ (Ne.symm z) t) (λk x=>q k x.2.1 (λe=>x.2.2.2.2 (by rw[e]))) (by omega),?_,?_,.inl rfl,h.fc,h.f1,h.f2,h.f3,.inr ⟨a,b,e,rfl,rfl,rfl,y,t,u⟩,λk C=>by rw[E];exact h.lt k C,D⟩
 .exact aq ((r.block c v).trans h.blk) 3 (e6 Y)
 .exact ak.block (show ak recB w b _ from h.ds) (q b (Ne.symm A) u)
 exact i.block (g6 _ _ _ _ (Ne.symm v))
theorem oE(F:Nat->Prop)(w:fx)(c:Nat)(d:ar)(h:bq F w c d)(a b:RK)(n:Int)(j:Bool)(ha:rkOk a)(D:rkOk b)(hn:i64B n):
 ht prog 76 #[e6 (X ⟨c,0,Y⟩),recK a,recK b,gE (n,j)] w λe w'=>e=e7 (J U (decideC d a b n j).2)/\∃I,bq I w' c (decideC d a b n j).1/\ah F w I w':=by
 by_cases hab:a=b
 .have HE:Hid (decideC d a b n j=(d,1)):=by unfold Hid decideC;rw[if_pos hab]
  subst hab;obtain⟨g,i⟩:=a;unfold recK gE;dsimp only;have HB:Hid (∀o o' cQ,Bw w (((w.alloc o).alloc o').alloc cQ)):=λo o' cQ=>(((fp _ w).alloc (ej _) o).alloc (by simp) o').alloc (by simp;omega) cQ;have HH:=Z h;clear h;go_enter func76,ntmps76;go_wp2;go_ret;rw[HE.o];exact⟨rfl,F,HH.below (HB _ _ _),ah.of_below (HB _ _ _)⟩
 have b6:=Z (kr d a b n j hab);have c7:Hid (el d (pairK a b) n j=0->bi {d with ps:=insL ltPK d.ps (pairK a b) (n,j)}):=by obtain⟨_,_,_,_,h⟩:=h;exact h.ok.decide hab ha D hn
 have bb:pkOk (pairK a b):=pO ha D;have b8:Hid (pairK a b=if ltRK b a then(b,a)else(a,b)):=rfl;obtain⟨m1,m2,C,kn,h⟩:=h;obtain⟨g,i⟩:=a;obtain⟨l,q⟩:=b;have cb:(bG (l,q) (g,i)<0)↔ltRK (l,q) (g,i)=true:=eL _ _;have e0:decide ((g,i)=(l,q))=false:=decide_eq_false hab;have HC:Hid (∀W,ht prog 49 #[.agg #[J U l,J U q],.agg #[J U g,J U i]] W λe w'=>e=e7 (J U (bG (l,q) (g,i)))/\bE W w'):=λW=>eV (l,q) (g,i) W;unfold recK gE;dsimp only;have e2:=λw=>q36 g i l q w;rw[e0]at e2;have e3:=CZ;obtain⟨f,bw⟩:=Qe ((((w.alloc (e5 #[J U g,J U i] 36)).alloc (e5 #[J U l,J U q] 36)).alloc (e5 #[J U n,e4 j] 139)));have aS:Bw w f:=by rw[<- bw];exact(((fp _ w).alloc (ej _) _).alloc (by simp) _).alloc (by simp;omega) _
 have d7:f.heap.size=w.heap.size+3:=by rw[<- bw];simp
 have c8:f.heap[w.heap.size]?=X (e5 #[J U g,J U i] 36 (0,0)):=by rw[<- bw,gp _ _ _ (by simp;omega),gp _ _ _ (by simp)];exact ex w _
 have c9:f.heap[w.heap.size+1]?=X (e5 #[J U l,J U q] 36 (0,0)):=by rw[<- bw,gp _ _ _ (by simp)];have:=ex (w.alloc (e5 #[J U g,J U i] 36)) (e5 #[J U l,J U q] 36);rwa[hj]at this
 have d3:f.heap[w.heap.size+2]?=X (e5 #[J U n,e4 j] 139 (0,0)):=by rw[<- bw];have:=ex ((w.alloc (e5 #[J U g,J U i] 36)).alloc (e5 #[J U l,J U q] 36)) (e5 #[J U n,e4 j] 139);rwa[hj,hj]at this
 have x0:f.cell? ⟨w.heap.size,0,Y⟩=X (J U g):=(aa c8 0).trans rfl;have x1:f.cell? ⟨w.heap.size,1,Y⟩=X (J U i):=(aa c8 1).trans rfl;have y0:f.cell? ⟨w.heap.size+1,0,Y⟩=X (J U l):=(aa c9 0).trans rfl;have y1:f.cell? ⟨w.heap.size+1,1,Y⟩=X (J U q):=(aa c9 1).trans rfl;have HH:=Z (h.below aS);have d9:=Z c8;have da:=Z c9;have dc:=Z d3;have d0:=Z aS;have b9:=Z d7;have bd:=Z h.lt;obtain⟨Wp,cq⟩:=Qe (f.alloc (e5 #[J U g,J U i,J U l,J U q] 134));have d6:Bw f Wp:=by rw[<- cq];exact(fp _ f).alloc (ej _) _
 have d8:Wp.heap.size=f.heap.size+1:=by rw[<- cq];simp
 have d4:Wp.heap[f.heap.size]?=X (e5 #[J U g,J U i,J U l,J U q] 134 (0,0)):=by rw[<- cq];exact ex f _
 have dd:=Z d4;have dk:=Z d6;have dx:=Z d8
 have b7:Hid (∀H,bE Wp H->H.heap[f.heap.size]?=X (e5 #[J U g,J U i,J U l,J U q] 134 (0,0))/\H.heap[w.heap.size]?=X (e5 #[J U g,J U i] 36 (0,0))/\H.heap[w.heap.size+1]?=X (e5 #[J U l,J U q] 36 (0,0))/\
  H.heap[w.heap.size+2]?=X (e5 #[J U n,e4 j] 139 (0,0))/\dU F H c m1 m2 C kn d/\Bw w H):=λH hg=>by
  have D:=hg.below
  have R:=b9.o
  have T:=dx.o
  have a9:Bw f H:=btr dk.o D (by omega)
  exact⟨(D.block _ (by omega)).trans dd.o,(a9.block _ (by omega)).trans d9.o,(a9.block _ (by omega)).trans da.o,(a9.block _ (by omega)).trans dc.o,HH.o.below a9,btr d0.o a9 d0.o.size⟩
 clear h aS c8 c9 d3 d7 hab d6 d8 d4;by_cases hlt:ltRK (l,q) (g,i)=true
 .have dz:bG (l,q) (g,i)<0:=cb.2 hlt;rw[if_pos hlt]at b8;rw[b8.o]at bb b6 c7;generalize bG (l,q) (g,i)=cm at*;clear hlt cb b8;obtain⟨v0,v1⟩:=dm (b7 Wp (bE.refl _)).2.1;obtain⟨v2,v3⟩:=dm (b7 Wp (bE.refl _)).2.2.1;go_enter func76,ntmps76;go_wp2_with (go_at_call 49;go_loud (((with_reducible refine gQ (HC.o _) ?_);rintro e H⟨rfl,bO⟩;obtain⟨g0,g1,g2,g3,g4,g5⟩:=b7.o _ bO;obtain⟨z0,z1⟩:=dm g1;obtain⟨z2,z3⟩:=dm g2;obtain⟨p0,p1,p2,p3⟩:=nB g0;have f0:=ab g0 0;have f1:=ab g0 1;have f2:=ab g0 2;have f3:=ab g0 3;have G0:=Z g0;have G3:=Z g3;have G4:=Z g4;have G5:=Z g5;clear g0 g1 g2 g3 g4 g5 bO)))
  have a5:Hid ((((((H.setCell ⟨f.heap.size,0,Y⟩ (J U l)).setCell ⟨f.heap.size,1,Y⟩ (J U q)).setCell ⟨f.heap.size,2,Y⟩ (J U g)).setCell ⟨f.heap.size,3,Y⟩ (J U i))).heap[f.heap.size]?=X (e5 #[J U l,J U q,J U g,J U i] 134 (0,0))):=aq (aq (aq (aq G0.o 0 (J U l)) 1 (J U q)) 2 (J U g)) 3 (J U i);have av:Hid (az f.heap.size H ((((H.setCell ⟨f.heap.size,0,Y⟩ (J U l)).setCell ⟨f.heap.size,1,Y⟩ (J U q)).setCell ⟨f.heap.size,2,Y⟩ (J U g)).setCell ⟨f.heap.size,3,Y⟩ (J U i))):=((((az.refl _ H).setCell 0 _).setCell 1 _).setCell 2 _).setCell 3 _;generalize((((H.setCell ⟨f.heap.size,0,Y⟩ (J U l)).setCell ⟨f.heap.size,1,Y⟩ (J U q)).setCell ⟨f.heap.size,2,Y⟩ (J U g)).setCell ⟨f.heap.size,3,Y⟩ (J U i))=s at*;have G:Hid (dU F s c m1 m2 C kn d):=G4.o.step (λk hf=>av.o.block k (λe=>by have:=bd.o k hf;have:=b9.o;omega)) (by rw[av.o.size];exact ej _);have ad:Hid (s.heap[w.heap.size+2]?=X (e5 #[J U n,e4 j] 139 (0,0))):=(av.o.block _ (by have:=b9.o;omega)).trans G3.o;have ac:Hid (Bw w s):=G5.o.trans (av.o.below (by have:=b9.o;omega));clear z0 z1 z2 z3 p0 p1 p2 p3 f0 f1 f2 f3 x0 x1 y0 y1 v0 v1 v2 v3;have b3:=λty=>cw.len (G.ps) underlying115 ty;rw[fs]at b3;have au:Hid (∀W,(∀m,C=X m->W.heap[m]?=s.heap[m]?)->(Instr.lookup 115 (.map C) (.agg #[J U l,J U q,J U g,J U i]) true).run prog W=.ok (.tuple #[.agg #[J U ((findK d.ps ((l,q),g,i)).getD (0,false)).1,e4 ((findK d.ps ((l,q),g,i)).getD (0,false)).2],e4 (findK d.ps ((l,q),g,i)).isSome]) W):=λW hW=>by have:=cw.look_ok (w:=W) (G.ps.block hW) underlying115 ij ((l,q),g,i) bb;rw[fF d.ps gE]at this;refine Eq.trans this ?_;cases findK d.ps ((l,q),g,i)<;>rfl
  have HX:Hid (el d ((l,q),g,i) n j=bg (findK d.ps ((l,q),g,i)).isSome (decide (((findK d.ps ((l,q),g,i)).getD (0,false)).1=n)&&decide (((findK d.ps ((l,q),g,i)).getD (0,false)).2=j)) ((findK d.ps ((l,q),g,i)).getD (0,false)).1 n d.ps.length):=rfl;generalize(findK d.ps ((l,q),g,i)).isSome=there at*;generalize(findK d.ps ((l,q),g,i)).getD (0,false)=ov at*;obtain⟨o1,o2⟩:=ov;dsimp only at au HX;have ds:Hid (d.ps.length=d.ps.length):=rfl;generalize hmany:d.ps.length=many at b3 HX;have HN:Hid (∀W,ht prog 56 #[e4 there,e4 (decide (o1=n)&&decide (o2=j)),J U o1,J U n,J U many] W λe w'=>e=e7 (J U (el d ((l,q),g,i) n j))/\W=w'):=λW=>by rw[HX.o];exact gT _ _ _ _ _ W
  have cc:=Z hmany;clear hmany;obtain⟨p0,p1,p2,p3⟩:=nB a5.o
  have y:s.drew.cell? ⟨c,2,Y⟩=X (.map C)/\s.drew.cell? ⟨f.heap.size,0,Y⟩=X (J U l)/\s.drew.cell? ⟨f.heap.size,1,Y⟩=X (J U q)/\s.drew.cell? ⟨f.heap.size,2,Y⟩=X (J U g)/\s.drew.cell? ⟨f.heap.size,3,Y⟩=X (J U i)/\(∀m,C=X m->s.drew.heap[m]?=s.heap[m]?):=
   ⟨(aa G.blk 2).trans rfl,p0,p1,p2,p3,λ_ _=>rfl⟩
  clear p0 p1 p2 p3
  have al:Hid (∀W,Bw s W->W.cell? ⟨c,2,Y⟩=X (.map C)/\W.cell? ⟨f.heap.size,0,Y⟩=X (J U l)/\W.cell? ⟨f.heap.size,1,Y⟩=X (J U q)/\W.cell? ⟨f.heap.size,2,Y⟩=X (J U g)/\W.cell? ⟨f.heap.size,3,Y⟩=X (J U i)/\(∀m,C=X m->W.heap[m]?=s.heap[m]?)):=λW D=>
   ⟨fM D _ _ y.1,fM D _ _ y.2.1,fM D _ _ y.2.2.1,fM D _ _ y.2.2.2.1,fM D _ _ y.2.2.2.2.1,λm hm=>D.block m (G.lt m (G.f3 m hm))⟩
  refine wT (λW=>W.cell? ⟨c,2,Y⟩=X (.map C)/\W.cell? ⟨f.heap.size,0,Y⟩=X (J U l)/\W.cell? ⟨f.heap.size,1,Y⟩=X (J U q)/\W.cell? ⟨f.heap.size,2,Y⟩=X (J U g)/\W.cell? ⟨f.heap.size,3,Y⟩=X (J U i)/\(∀m,C=X m->W.heap[m]?=s.heap[m]?)) 11 ?_;refine Qb [0,4,1,2,3] y (λw' h=>h) ?_;refine tk 5 ?_ rfl y ?_ ?_;rotate_left;intro w' h;obtain⟨V,R,T,h3,h4,M⟩:=h;have hl:=au w' M;go_simp;rfl;try go_simp
  refine Qb [6,7,8] y (λw' h=>h) ?_;refine Dp 9 λK r=>?_;go_simp;have bB:∀o,Bw s (s.drew.alloc o):=λo=>(fp _ s).drew.alloc (ej _) o;refine r _ _ (λ_=>al _ (bB _)) ?_;clear r K;refine Dp 10 λK r=>?_;go_simp;have aT:∀o,Bw s (s.alloc o).drew:=λo=>((fp _ s).alloc (ej _) o).drew;refine r _ _ (λ_=>al _ (aT _)) ?_;clear r K;refine Dl 11 ?_;obtain⟨z,a8⟩:=Qe ((s.alloc (e5 #[J U o1,e4 o2] 139)).drew);have bt:z.heap[s.heap.size]?=X (e5 #[J U o1,e4 o2] 139 (0,0)):=by rw[<- a8];exact ex s _
  have a3:Bw s z:=by rw[<- a8];exact aT _
  have a4:=Z (G.below a3);have d5:=(a3.block _ (ae a5.o)).trans a5.o;have ay:=(a3.block _ (ae ad.o)).trans ad.o;have bc:Hid (Bw w z):=btr ac.o a3 ac.size;have cu:=λty=>cw.len (w:=z.drew) (a4.ps.block (λ_ _=>rfl)) underlying115 ty;rw[fs,cc.o]at cu;rw[a8];clear b3 y al bB aT a8 a3 au G ad ac a5 av;obtain⟨s0,s1⟩:=dm bt;obtain⟨r0,r1⟩:=dm ay;have dy:z.cell? ⟨c,2,Y⟩=X (.map C):=(aa a4.blk 2).trans rfl;have d1:=Z d5;have bk:=Z ay;clear bt ay d5;go_wp2_with fail;refine wT (λW=>W=z.drew) 14 ?_;refine Qb [0,1,2,4,6,8,3,5,7,9,10,11] rfl (λw' h=>h) ?_;refine Ds 12 rfl ?_;refine Dp 13 λK r=>?_;go_simp;go_at_call 56;refine(HN _).mono ?_;rintro e w9⟨rfl,rfl⟩;refine r _ _ (λ_=>rfl) ?_;clear r K;refine Dl 14 ?_;by_cases hx:el d ((l,q),g,i) n j=0;rotate_left
  .have a6:=Z hx;have e1:((el d ((l,q),g,i) n j)==0)=false:=by simpa using hx
   generalize el d ((l,q),g,i) n j=x at*;go_wp2_with fail;go_ret;rw[b6.o,if_neg a6.o];exact⟨rfl,F,⟨_,_,_,_,a4.below (fp _ z).drew⟩,ah.of_below bc.drew⟩
  have a6:=Z hx;rw[hx];go_wp2_with (go_at_call 57;(refine gQ (ie (a4.o.below (fp _ z).drew)) ?_;rintro e A⟨rfl,I,ma,mb,u,N,y⟩))
  have cx:¬F f.heap.size:=λhf=>by have:=bd.o _ hf;have:=b9.o;omega
  have cv:¬F (w.heap.size+2):=λhf=>by have:=bd.o _ hf;omega
  have cp:f.heap.size<z.drew.heap.size:=ae d1.o;have cl:w.heap.size+2<z.drew.heap.size:=ae bk.o;have cs:=(y.block _ cp cx).trans d1.o;have ax:=(y.block _ cl cv).trans bk.o;have a0:ak pairB A u _:=N.ps;obtain⟨st,bs,bl,c4,bA,c1,c6⟩:=ak.entry (w:=A.drew) (ak.drew a0) un underlying115 ij ((l,q),g,i) bb (by rw[fs];have:=N.ok.plen;unfold maxLen;omega);have b0:c≠u:=λe=>(aj a0 N.blk) e.symm;have cn:f.heap.size≠u:=λe=>(aj a0 cs) e.symm;have ch:w.heap.size+2≠u:=λe=>(aj a0 ax) e.symm;have ao:Hid (∀W,az u A W->W.cell? ⟨c,2,Y⟩=X (e8 (X u))/\W.cell? ⟨f.heap.size,0,Y⟩=X (J U l)/\W.cell? ⟨f.heap.size,1,Y⟩=X (J U q)/\W.cell? ⟨f.heap.size,2,Y⟩=X (J U g)/\W.cell? ⟨f.heap.size,3,Y⟩=X (J U i)/\W.cell? ⟨w.heap.size+2,0,Y⟩=X (J U n)/\W.cell? ⟨w.heap.size+2,1,Y⟩=X (e4 j)):=λW ho=>by obtain⟨p0,p1,p2,p3⟩:=nB ((ho.block _ cn).trans cs);obtain⟨r0,r1⟩:=dm ((ho.block _ ch).trans ax);exact⟨(aa ((ho.block c b0).trans N.blk) 2).trans rfl,p0,p1,p2,p3,r0,r1⟩
  have b4:az u A A.drew:=(az.refl u A).drew;have bv:=ao _ b4;have L:=Z N;have cg:=Z y;clear N y a0 cs ax;go_wp2_with fail;refine wT (λW=>W.cell? ⟨c,2,Y⟩=X (e8 (X u))/\W.cell? ⟨f.heap.size,0,Y⟩=X (J U l)/\W.cell? ⟨f.heap.size,1,Y⟩=X (J U q)/\W.cell? ⟨f.heap.size,2,Y⟩=X (J U g)/\W.cell? ⟨f.heap.size,3,Y⟩=X (J U i)/\W.cell? ⟨w.heap.size+2,0,Y⟩=X (J U n)/\W.cell? ⟨w.heap.size+2,1,Y⟩=X (e4 j)) 12 ?_;refine Qb [0,4,5,6,1,2,3] bv (λw' h=>h) ?_;refine Dp 7 λK r=>?_;refine bF rfl c4 ?_;have b5:az u A (gy A.drew u (.map bs bl)):=b4.trans c1;have aC:=ao _ b5;generalize gy A.drew u (.map bs bl)=w4 at*;refine r _ _ (λ_=>aC) ?_;clear r K;go_simp;refine Qb [8] aC (λw' h=>h) ?_
  refine Dp 9 λK r=>?_;obtain⟨E,c5,c0,c2⟩:=c6 w4 (.agg #[J U n,e4 j]) bA;refine bj rfl c5 ?_;have O:az u A E:=b5.trans c2;have a7:=ao _ O;refine r _ _ (λ_=>a7) ?_;clear r K;go_simp;refine Ds 10 a7 ?_;refine Qb [11] a7 (λw' h=>h) ?_
  have bY:ak pairB E u ((insL ltPK d.ps ((l,q),g,i) (n,j)).map λp=>(p.1,gE p.2)):=c0.perm (jv dG L.ok.ok.ps (λ_ v=>gE v) ((l,q),g,i) (n,j));have hF:=L.put3 O bY (c7 a6.o);have c3:E.cell? ⟨c,3,Y⟩=X kn:=(O.cell (p:=⟨c,3,Y⟩) b0).trans ((aa L.blk 3).trans rfl);have f3:E.frozen? ⟨c,3,Y⟩=false:=(O.frozen (p:=⟨c,3,Y⟩) b0).trans (ab L.blk 3);have HF:=Z hF;have cd:=Z O;clear hF bv aC a7 c0 bY c5 c2 c1 c6 c4 bA O b4 b5;refine Dl 12 ?_;go_wp2_with fail;go_ret;rw[b6.o,if_pos a6.o];refine⟨rfl,I,⟨_,_,_,_,HF.o⟩,?_⟩;have cy:ah F w F z.drew:=ah.of_below bc.drew;have cz:ah I A I E:=ah.of_only cd.o (L.f3 u rfl);have cP:ah I E I (E.setCell ⟨c,3,Y⟩ (e6 Y)):=ah.of_only (az.setCell (az.refl c E) 3 _) L.fc;exact((cy.trans cg.o).trans cz).trans cP
 have dz:¬(bG (l,q) (g,i)<0):=λhh=>hlt (cb.1 hh);rw[if_neg hlt]at b8;rw[b8.o]at bb b6 c7;generalize bG (l,q) (g,i)=cm at*;clear hlt cb b8;obtain⟨v0,v1⟩:=dm (b7 Wp (bE.refl _)).2.1;obtain⟨v2,v3⟩:=dm (b7 Wp (bE.refl _)).2.2.1;go_enter func76,ntmps76;go_wp2_with (go_at_call 49;go_loud (((with_reducible refine gQ (HC.o _) ?_);rintro e s⟨rfl,bO⟩;obtain⟨g0,g1,g2,g3,g4,g5⟩:=b7.o _ bO;have a5:=Z g0;have ad:=Z g3;have G:=Z g4;have ac:=Z g5;have av:=Z g5;clear g0 g1 g2 g3 g4 g5 bO)))
 clear x0 x1 y0 y1 v0 v1 v2 v3;have b3:=λty=>cw.len (G.ps) underlying115 ty;rw[fs]at b3;have au:Hid (∀W,(∀m,C=X m->W.heap[m]?=s.heap[m]?)->(Instr.lookup 115 (.map C) (.agg #[J U g,J U i,J U l,J U q]) true).run prog W=.ok (.tuple #[.agg #[J U ((findK d.ps ((g,i),l,q)).getD (0,false)).1,e4 ((findK d.ps ((g,i),l,q)).getD (0,false)).2],e4 (findK d.ps ((g,i),l,q)).isSome]) W):=λW hW=>by have:=cw.look_ok (w:=W) (G.ps.block hW) underlying115 ij ((g,i),l,q) bb;rw[fF d.ps gE]at this;refine Eq.trans this ?_;cases findK d.ps ((g,i),l,q)<;>rfl
 have HX:Hid (el d ((g,i),l,q) n j=bg (findK d.ps ((g,i),l,q)).isSome (decide (((findK d.ps ((g,i),l,q)).getD (0,false)).1=n)&&decide (((findK d.ps ((g,i),l,q)).getD (0,false)).2=j)) ((findK d.ps ((g,i),l,q)).getD (0,false)).1 n d.ps.length):=rfl;generalize(findK d.ps ((g,i),l,q)).isSome=there at*;generalize(findK d.ps ((g,i),l,q)).getD (0,false)=ov at*;obtain⟨o1,o2⟩:=ov;dsimp only at au HX;have ds:Hid (d.ps.length=d.ps.length):=rfl;generalize hmany:d.ps.length=many at b3 HX;have HN:Hid (∀W,ht prog 56 #[e4 there,e4 (decide (o1=n)&&decide (o2=j)),J U o1,J U n,J U many] W λe w'=>e=e7 (J U (el d ((g,i),l,q) n j))/\W=w'):=λW=>by rw[HX.o];exact gT _ _ _ _ _ W
 have cc:=Z hmany;clear hmany;obtain⟨p0,p1,p2,p3⟩:=nB a5.o
 have y:s.drew.cell? ⟨c,2,Y⟩=X (.map C)/\s.drew.cell? ⟨f.heap.size,0,Y⟩=X (J U g)/\s.drew.cell? ⟨f.heap.size,1,Y⟩=X (J U i)/\s.drew.cell? ⟨f.heap.size,2,Y⟩=X (J U l)/\s.drew.cell? ⟨f.heap.size,3,Y⟩=X (J U q)/\(∀m,C=X m->s.drew.heap[m]?=s.heap[m]?):=
  ⟨(aa G.blk 2).trans rfl,p0,p1,p2,p3,λ_ _=>rfl⟩
 clear p0 p1 p2 p3
 have al:Hid (∀W,Bw s W->W.cell? ⟨c,2,Y⟩=X (.map C)/\W.cell? ⟨f.heap.size,0,Y⟩=X (J U g)/\W.cell? ⟨f.heap.size,1,Y⟩=X (J U i)/\W.cell? ⟨f.heap.size,2,Y⟩=X (J U l)/\W.cell? ⟨f.heap.size,3,Y⟩=X (J U q)/\(∀m,C=X m->W.heap[m]?=s.heap[m]?)):=λW D=>
  ⟨fM D _ _ y.1,fM D _ _ y.2.1,fM D _ _ y.2.2.1,fM D _ _ y.2.2.2.1,fM D _ _ y.2.2.2.2.1,λm hm=>D.block m (G.lt m (G.f3 m hm))⟩
 refine wT (λW=>W.cell? ⟨c,2,Y⟩=X (.map C)/\W.cell? ⟨f.heap.size,0,Y⟩=X (J U g)/\W.cell? ⟨f.heap.size,1,Y⟩=X (J U i)/\W.cell? ⟨f.heap.size,2,Y⟩=X (J U l)/\W.cell? ⟨f.heap.size,3,Y⟩=X (J U q)/\(∀m,C=X m->W.heap[m]?=s.heap[m]?)) 11 ?_;refine Qb [0,4,1,2,3] y (λw' h=>h) ?_;refine tk 5 ?_ rfl y ?_ ?_;rotate_left;intro w' h;obtain⟨V,R,T,h3,h4,M⟩:=h;have hl:=au w' M;go_simp;rfl;try go_simp
 refine Qb [6,7,8] y (λw' h=>h) ?_;refine Dp 9 λK r=>?_;go_simp;have bB:∀o,Bw s (s.drew.alloc o):=λo=>(fp _ s).drew.alloc (ej _) o;refine r _ _ (λ_=>al _ (bB _)) ?_;clear r K;refine Dp 10 λK r=>?_;go_simp;have aT:∀o,Bw s (s.alloc o).drew:=λo=>((fp _ s).alloc (ej _) o).drew;refine r _ _ (λ_=>al _ (aT _)) ?_;clear r K;refine Dl 11 ?_;obtain⟨z,a8⟩:=Qe ((s.alloc (e5 #[J U o1,e4 o2] 139)).drew);have bt:z.heap[s.heap.size]?=X (e5 #[J U o1,e4 o2] 139 (0,0)):=by rw[<- a8];exact ex s _
 have a3:Bw s z:=by rw[<- a8];exact aT _
 have a4:=Z (G.below a3);have a9:=(a3.block _ (ae a5.o)).trans a5.o;have ay:=(a3.block _ (ae ad.o)).trans ad.o;have bc:Hid (Bw w z):=btr ac.o a3 ac.size;have cu:=λty=>cw.len (w:=z.drew) (a4.ps.block (λ_ _=>rfl)) underlying115 ty;rw[fs,cc.o]at cu;rw[a8];clear b3 y al bB aT a8 a3 au G ad ac a5 av;obtain⟨s0,s1⟩:=dm bt;obtain⟨r0,r1⟩:=dm ay;have dy:z.cell? ⟨c,2,Y⟩=X (.map C):=(aa a4.blk 2).trans rfl;have d2:=Z a9;have bk:=Z ay;clear bt ay a9;go_wp2_with fail;refine wT (λW=>W=z.drew) 14 ?_;refine Qb [0,1,2,4,6,8,3,5,7,9,10,11] rfl (λw' h=>h) ?_;refine Ds 12 rfl ?_;refine Dp 13 λK r=>?_;go_simp;go_at_call 56;refine(HN _).mono ?_;rintro e w9⟨rfl,rfl⟩;refine r _ _ (λ_=>rfl) ?_;clear r K;refine Dl 14 ?_;by_cases hx:el d ((g,i),l,q) n j=0;rotate_left
 .have a6:=Z hx;have e1:((el d ((g,i),l,q) n j)==0)=false:=by simpa using hx
  generalize el d ((g,i),l,q) n j=x at*;go_wp2_with fail;go_ret;rw[b6.o,if_neg a6.o];exact⟨rfl,F,⟨_,_,_,_,a4.below (fp _ z).drew⟩,ah.of_below bc.drew⟩
 have a6:=Z hx;rw[hx];go_wp2_with (go_at_call 57;(refine gQ (ie (a4.o.below (fp _ z).drew)) ?_;rintro e A⟨rfl,I,ma,mb,u,N,y⟩))
 have cx:¬F f.heap.size:=λhf=>by have:=bd.o _ hf;have:=b9.o;omega
 have cv:¬F (w.heap.size+2):=λhf=>by have:=bd.o _ hf;omega
 have cp:f.heap.size<z.drew.heap.size:=ae d2.o;have cl:w.heap.size+2<z.drew.heap.size:=ae bk.o;have aS:=(y.block _ cp cx).trans d2.o;have ax:=(y.block _ cl cv).trans bk.o;have a0:ak pairB A u _:=N.ps;obtain⟨st,bs,bl,c4,bA,c1,c6⟩:=ak.entry (w:=A.drew) (ak.drew a0) un underlying115 ij ((g,i),l,q) bb (by rw[fs];have:=N.ok.plen;unfold maxLen;omega);have b0:c≠u:=λe=>(aj a0 N.blk) e.symm;have cn:f.heap.size≠u:=λe=>(aj a0 aS) e.symm;have ch:w.heap.size+2≠u:=λe=>(aj a0 ax) e.symm;have ao:Hid (∀W,az u A W->W.cell? ⟨c,2,Y⟩=X (e8 (X u))/\W.cell? ⟨f.heap.size,0,Y⟩=X (J U g)/\W.cell? ⟨f.heap.size,1,Y⟩=X (J U i)/\W.cell? ⟨f.heap.size,2,Y⟩=X (J U l)/\W.cell? ⟨f.heap.size,3,Y⟩=X (J U q)/\W.cell? ⟨w.heap.size+2,0,Y⟩=X (J U n)/\W.cell? ⟨w.heap.size+2,1,Y⟩=X (e4 j)):=λW ho=>by obtain⟨p0,p1,p2,p3⟩:=nB ((ho.block _ cn).trans aS);obtain⟨r0,r1⟩:=dm ((ho.block _ ch).trans ax);exact⟨(aa ((ho.block c b0).trans N.blk) 2).trans rfl,p0,p1,p2,p3,r0,r1⟩
 have b4:az u A A.drew:=(az.refl u A).drew;have bv:=ao _ b4;have L:=Z N;have cg:=Z y;clear N y a0 aS ax;go_wp2_with fail;refine wT (λW=>W.cell? ⟨c,2,Y⟩=X (e8 (X u))/\W.cell? ⟨f.heap.size,0,Y⟩=X (J U g)/\W.cell? ⟨f.heap.size,1,Y⟩=X (J U i)/\W.cell? ⟨f.heap.size,2,Y⟩=X (J U l)/\W.cell? ⟨f.heap.size,3,Y⟩=X (J U q)/\W.cell? ⟨w.heap.size+2,0,Y⟩=X (J U n)/\W.cell? ⟨w.heap.size+2,1,Y⟩=X (e4 j)) 12 ?_;refine Qb [0,4,5,6,1,2,3] bv (λw' h=>h) ?_;refine Dp 7 λK r=>?_;refine bF rfl c4 ?_;have b5:az u A (gy A.drew u (.map bs bl)):=b4.trans c1;have aC:=ao _ b5;generalize gy A.drew u (.map bs bl)=w4 at*;refine r _ _ (λ_=>aC) ?_;clear r K;go_simp;refine Qb [8] aC (λw' h=>h) ?_
 refine Dp 9 λK r=>?_;obtain⟨E,c5,c0,c2⟩:=c6 w4 (.agg #[J U n,e4 j]) bA;refine bj rfl c5 ?_;have O:az u A E:=b5.trans c2;have a7:=ao _ O;refine r _ _ (λ_=>a7) ?_;clear r K;go_simp;refine Ds 10 a7 ?_;refine Qb [11] a7 (λw' h=>h) ?_
 have bY:ak pairB E u ((insL ltPK d.ps ((g,i),l,q) (n,j)).map λp=>(p.1,gE p.2)):=c0.perm (jv dG L.ok.ok.ps (λ_ v=>gE v) ((g,i),l,q) (n,j));have hF:=L.put3 O bY (c7 a6.o);have c3:E.cell? ⟨c,3,Y⟩=X kn:=(O.cell (p:=⟨c,3,Y⟩) b0).trans ((aa L.blk 3).trans rfl);have f3:E.frozen? ⟨c,3,Y⟩=false:=(O.frozen (p:=⟨c,3,Y⟩) b0).trans (ab L.blk 3);have HF:=Z hF;have cd:=Z O;clear hF bv aC a7 c0 bY c5 c2 c1 c6 c4 bA O b4 b5;refine Dl 12 ?_;go_wp2_with fail;go_ret;rw[b6.o,if_pos a6.o];refine⟨rfl,I,⟨_,_,_,_,HF.o⟩,?_⟩;have cy:ah F w F z.drew:=ah.of_below bc.drew;have cz:ah I A I E:=ah.of_only cd.o (L.f3 u rfl);have cP:ah I E I (E.setCell ⟨c,3,Y⟩ (e6 Y)):=ah.of_only (az.setCell (az.refl c E) 3 _) L.fc;exact((cy.trans cg.o).trans cz).trans cP
theorem sT(F:Nat->Prop)(w:fx)(c:Nat)(d:ar)(h:bq F w c d)(a b:RK)(n:Int)(r:rkOk a)(s:rkOk b)(hn:i64B n):
 ht prog 39 #[e6 (X ⟨c,0,Y⟩),recK a,recK b,J U n] w λe w'=>e=e7 (J U (decideC d a b n false).2)/\∃g,bq g w' c (decideC d a b n false).1/\ah F w g w':=by
 have i:∀o f,Bw w ((w.alloc o).alloc f):=λo f=>((fp _ w).alloc (ej _) o).alloc (by simp) f;have l:=Z (λo f=>oE F ((w.alloc o).alloc f) c d (h.below (i o f)) a b n false r s hn);have k:=Z i;clear h i;obtain⟨t,u⟩:=a;obtain⟨v,x⟩:=b;unfold recK gE at*;dsimp only at*;go_enter func39,ntmps39;go_wp2_with (go_at_call 76;(refine gQ (l.o _ _) ?_;rintro e y⟨rfl,j⟩;have m:=Z j;clear j))
 go_ret;obtain⟨g,p,q⟩:=m.o;exact⟨rfl,g,p,(ah.of_below (k _ _)).trans q⟩
theorem vv(F:Nat->Prop)(w:fx)(c:Nat)(d:ar)(h:bq F w c d)(a b:RK)(n:Int)(r:rkOk a)(s:rkOk b)(hn:i64B n):
 ht prog 40 #[e6 (X ⟨c,0,Y⟩),recK a,recK b,J U n] w λe w'=>e=e7 (J U (decideC d a b n true).2)/\∃g,bq g w' c (decideC d a b n true).1/\ah F w g w':=by
 have i:∀o f,Bw w ((w.alloc o).alloc f):=λo f=>((fp _ w).alloc (ej _) o).alloc (by simp) f;have l:=Z (λo f=>oE F ((w.alloc o).alloc f) c d (h.below (i o f)) a b n true r s hn);have k:=Z i;clear h i;obtain⟨t,u⟩:=a;obtain⟨v,x⟩:=b;unfold recK gE at*;dsimp only at*;go_enter func40,ntmps40;go_wp2_with (go_at_call 76;(refine gQ (l.o _ _) ?_;rintro e y⟨rfl,j⟩;have m:=Z j;clear j))
 go_ret;obtain⟨g,p,q⟩:=m.o;exact⟨rfl,g,p,(ah.of_below (k _ _)).trans q⟩
end
section
open Go.RowKit Go.Maps Go.Shelf Go.WideShapes
attribute [local go_sem] Oper.semAt_some
set_option linter.unusedSectionVars false
section
variable {P:Program} {kt:TypeId} {K:Type} [DecidableEq K] {B:ev P kt K} {F:Fence} {nF:Nat}
variable (w:fx) {ops:Array Oper} {rest:List Oper} {o:Oper} {a:Act} {Q:Exit->Act->fx->Prop}
theorem qM(y:o.guard=Y)(m:Operand)(t:TypeId)(D:o.op=Op.range t m)(e:TypeId)(G:P.underlying t=X (.map kt e))
 (b:Nat)(l:List (K×gs))(C:a.eval m=e8 (X b))(h:ak B w b l)
 (x:∀w',cA B w' b w.heap.size l l->Bw w w'->w'.heap.size=w.heap.size+1->wpListIn F nF P ops Q rest (a.put o.dst (e6 (X ⟨w.heap.size,0,Y⟩))) w'):wpListIn F nF P ops Q (o::rest) a w:=by
 have hn:=h.nodup;obtain⟨s,g,f,i⟩:=h;refine wpListIn_range_own w y m t D kt e B.keyed G heldR b _ _ C g λw' u c v=>x w' ⟨s,_,_,u,f,i,List.Sublist.refl _,λp d=>?_,λz j=>?_⟩ ⟨c.os,c.tape,c.output,c.size,λk A=>c.block k A (by simp)⟩ v
 .refine⟨λ_=>d,λ_=>?_⟩;exact Maps.has_true_of_atKey λz=>ak.at_some g f hn (i p d) ((bz hn).2 d) z
 rw[Maps.has_eq,List.any_eq_true]at j;obtain⟨q,E,e⟩:=j;obtain⟨p,d,r⟩:=List.mem_map.1 (f.mem_iff.1 E);exact⟨p,d,by rw[<- WideAt.sameKey_eq e,<- r]⟩
theorem ti(hg:o.guard=Y)(L:Operand)(ac:o.op=Op.next L false)(b r:Nat)(l left:List (K×gs))(a8:a.eval L=e6 (X ⟨r,0,Y⟩))(h:cA B w b r l left)
 (a4:left=[]->wpListIn F nF P ops Q rest (a.put o.dst (.tuple #[e4 false])) w)
 (a5:∀(p:K×gs)(w':fx),p∈left->B.ok p.1->cA B w' b r l (cB left p.1)->(cB left p.1).length<left.length->az r w w'->
  (Instr.entry (e6 (X ⟨r,0,Y⟩))).run P w'=.ok (.tuple #[B.kv p.1,p.2]) w'->wpListIn F nF P ops Q rest (a.put o.dst (.tuple #[e4 true,B.kv p.1,p.2])) w'):
 wpListIn F nF P ops Q (o::rest) a w:=by
 have hn:=h.map.nodup;obtain⟨es,f,a0,M,N,E,t,O,R⟩:=h;refine wpListIn_next_ranges w hg L ac kt B.keyed heldR (λv:gs=>v) (λv:gs=>v) (λkey W _=>⟨key,rfl⟩) (λv y _=>⟨v,rfl⟩) b r _ _ f a0 a8 M (λh0 hl=>a4 ?_) λx c W y w' a3 H a9 V a6 ad au u al a7=>?_
 .rcases left with _|⟨p,left⟩
  .rfl
  have:=(O p (t.subset hJ)).2 hJ;rw[hl]at this;cases this
 obtain⟨p,g,e⟩:=R W a9;have I:=t.subset g;have A:=E p I;have ao:x=B.kv p.1:=B.keyed.inj H (by rw[<- e];exact B.key _ A);have hc:p.2=c:=by have G:=a6 (.held undef);rw[<- e,ak.at_some M.owns N hn A ((bz hn (k:=p.1) (v:=p.2)).2 I)]at G;simp only[heldR,Option.some.injEq]at V;rw[<- V]at G;injection G
 have T:(left.map (·.1)).Nodup:=hn.sublist (t.map _);subst ao;subst hc;refine a5 p w' g A ⟨es,_,a3,ad,N,E,(List.filter_sublist).trans t,λq i=>?_,λz C=>?_⟩ (zB g) ⟨u.os,u.tape,u.output,al,λk hk=>?_⟩ a7
 .rw[ix T g,<- O q i];simp only[Bool.and_eq_true,gn];constructor
  .rintro⟨D,s⟩;refine⟨D,λd=>?_⟩;rw[d,e,hH (B.keyed.key H)]at s;cases s
  rintro⟨D,s⟩;refine⟨D,Maps.sameKey_ne λd=>s ?_⟩;rw[<- e]at d;have m:=B.lit_inj (E q i) A d;have j:=(bz hn (k:=q.1) (v:=q.2)).2 i;have a2:=(bz hn (k:=p.1) (v:=p.2)).2 I;rw[m,a2]at j;injection j with j
  exact Prod.ext m j.symm
 .simp only[Bool.and_eq_true,gn]at C;obtain⟨q,i,d⟩:=R z C.1;refine⟨q,(ix T g).2 ⟨i,λm=>?_⟩,d⟩;rw[<- d,m,e,hH (B.keyed.key H)]at C;cases C.2
 by_cases hk2:k<w.heap.size
 .exact u.block k hk2 (by simpa using hk)
 rw[hA (by omega),hA (by omega)]
theorem pJ(a b:Int):recB.kv (a,b)=.agg #[J U a,J U b]:=rfl
theorem yL(a b c d:Int):pairB.kv ((a,b),(c,d))=.agg #[J U a,J U b,J U c,J U d]:=rfl
def dS(B:ev P kt K)(w:fx)(mv:Option Nat)(r:Nat)(l left:List (K×gs)):Prop:=match mv with
 |none=>l=[]/\left=[]/\w.heap[r]?=X (.mapIter Y 0 #[] 0)
 |some b=>cA B w b r l left
theorem dS.lt{w:fx}{mv:Option Nat}{r:Nat}{l left:List (K×gs)}(h:dS B w mv r l left):r<w.heap.size:=by
 cases mv with
 |none=>exact ae h.2.2
 |some b=>exact cA.lt h
theorem dS.kept{w w':fx}{mv:Option Nat}{r:Nat}{l left:List (K×gs)}(h:dS B w mv r l left)(c:hC w w'):dS B w' mv r l left:=by
 cases mv with
 |none=>exact⟨h.1,h.2.1,c.same r _ h.2.2 rfl⟩
 |some b=> have h:cA B w b r l left:=h;obtain⟨i,f,e,⟨g,c1,u,v,d,j,k,m,p,q,s⟩,t⟩:=h;exact⟨i,f,e,⟨g,c1,u,v,d,c.same b _ j rfl,k,m,p,c.same r _ q rfl,s⟩,t⟩
theorem dS.nodup{w:fx}{mv:Option Nat}{r:Nat}{l left:List (K×gs)}(h:dS B w mv r l left):(left.map (·.1)).Nodup:=by
 cases mv with
 |none=> obtain⟨_,c,_⟩:=h;subst c;exact List.nodup_nil
 |some b=> have h:cA B w b r l left:=h;have hn:=h.map.nodup;obtain⟨g,f,e,i,c,j,d,_⟩:=h;exact hn.sublist (d.map _)
theorem jw{l:List (K×gs)}(hn:(l.map (·.1)).Nodup){k:K}{v:gs}(b:(k,v)∈l):([k]++(cB l k).map (·.1)).Perm (l.map (·.1)):=by
 induction l with
 |nil=>cases b
 |cons p l ih=>
  rw[hq,List.nodup_cons]at hn;unfold cB at ih ⊢;rw[List.filter_cons];by_cases e:p.1=k
  .rw[if_neg (by simp[e])];have:l.filter (λq=> !decide (q.1=k))=l:=by rw[List.filter_eq_self];intro q f;simp only[gn,decide_eq_false_iff_not];intro c;exact hn.1 (by rw[e,<- c];exact List.mem_map.2 ⟨q,f,rfl⟩)
   rw[this,hq,e];exact .refl _
  rw[if_pos (by simp[e]),hq,hq];have d:(k,v)∈l:=by
   rcases List.mem_cons.1 b with h|h
   .exact absurd (by rw[<- h]) e
   exact h
  exact(List.Perm.swap _ _ _).trans ((ih hn.2 d).cons _)
theorem eZ(g:o.guard=Y)(m:Operand)(t:TypeId)(d:o.op=Op.range t m)(e:TypeId)(j:P.underlying t=X (.map kt e))
 (mv:Option Nat)(l:List (K×gs))(i:a.eval m=.map mv)(h:cw B w mv l)
 (f:∀w',dS B w' mv w.heap.size l l->Bw w w'->w'.heap.size=w.heap.size+1->wpListIn F nF P ops Q rest (a.put o.dst (e6 (X ⟨w.heap.size,0,Y⟩))) w'):wpListIn F nF P ops Q (o::rest) a w:=by
 cases mv with
 |some b=>exact qM w g m t d e j b l i h f
 |none=> have h:l=[]:=h;subst h;refine wpListIn_plain g λr k=>?_;unfold Oper.wpIn;refine⟨by simp[Oper.about,d],?_⟩;rw[Oper.semAt_plain F _ _ (by rw[d];intro c q;cases q)];have p:Bw w (w.alloc (.mapIter Y 0 #[] 0)):=(fp _ w).alloc (ej _) _;have:=f (w.alloc (.mapIter Y 0 #[] 0)) ⟨rfl,rfl,ex w _⟩ p (by simp);simp[execOp,d,i,Instr.range,run_underlying j,hu];exact k _ _ this
theorem fR(g:o.guard=Y)(e:Operand)(d:o.op=Op.next e false)(mv:Option Nat)(r:Nat)(l left:List (K×gs))(i:a.eval e=e6 (X ⟨r,0,Y⟩))(h:dS B w mv r l left)
 (f:left=[]->wpListIn F nF P ops Q rest (a.put o.dst (.tuple #[e4 false])) w)
 (k:∀(p:K×gs)(w':fx),p∈left->B.ok p.1->dS B w' mv r l (cB left p.1)->(cB left p.1).length<left.length->az r w w'->
  (Instr.entry (e6 (X ⟨r,0,Y⟩))).run P w'=.ok (.tuple #[B.kv p.1,p.2]) w'->wpListIn F nF P ops Q rest (a.put o.dst (.tuple #[e4 true,B.kv p.1,p.2])) w'):
 wpListIn F nF P ops Q (o::rest) a w:=by
 cases mv with
 |some b=>exact ti w g e d b r l left i h f k
 |none=>
  obtain⟨_,s,t⟩:=h;refine wpListIn_plain g λv j=>?_;unfold Oper.wpIn;refine⟨by simp[Oper.about,d],?_⟩;rw[Oper.semAt_plain F _ _ (by rw[d];intro c m;cases m)];have u:(Instr.next (e6 (X ⟨r,0,Y⟩)) false o.type).run P w=.ok (.tuple #[e4 false]) w:=by
   have q:(getObj r).run P w=.ok (.mapIter Y 0 #[] 0) w:=by simp[getObj,Sem.run,t]
   simp[Instr.next,q,hu]
  simp[execOp,d,i,u,hu];exact j _ _ (f s)
end
theorem yZ(n:Nat)(hn:1<=n)(q:Nat)(mv:Option Nat)(l:List (RK×gs))(r:fx)(A:r.cell? ⟨q,0,Y⟩=X (.map mv))(M:cw recB r mv l)(al:∀b,mv=X b->b<r.heap.size):
 jl gq n prog 89 #[e6 (X ⟨q,0,Y⟩)] (λx:RK=> #[recK x]) (λxs=>xs.Perm (l.map (·.1))) (λ_=>True) (λd x=>d.length<l.length/\rkOk x) (λ_=>False) r:=by
 intro ax y Jx W z E H D;have c0:W.cell? ⟨q,0,Y⟩=X (.map mv):=(z.cell (p:=⟨q,0,Y⟩) (bD A)).trans A;have ad:cw recB W mv l:=M.block (λb hb=>z.block b (al b hb));have s:=Z E;have HY:=Z H;have V:=Z D;clear E H D z A M;refine g7 func89 rfl trivial ?_ rfl;simp only[ntmps89,fy,fl,gi,gx,gt,fb,eQ,fz,fr,gb,gd];gi_wp2_with (refine eZ _ rfl _ _ rfl 36 underlying92 mv l rfl ad ?_;intro w1 O i T)
 have I:y (λk=>k=W.heap.size) [] w1:=s.o _ _ _ _ _ V.o ⟨i.os,i.tape,i.output,i.size,λk c _ _=>i.block k c,λk c=>.inr (by rw[c];exact ej _),λk c=>by rw[c,T];omega⟩;have a3:=Z O;have a0:=Z I;have aT:W.heap.size<w1.heap.size:=by omega
 clear O I i T;gi_loopg [] (l.length+1) (λg wr=>∃d left,left.length<g/\Hid (dS recB wr mv W.heap.size l left)/\Hid (y (λk=>k=W.heap.size) d wr)/\Hid ((d++left.map (·.1)).Perm (l.map (·.1))))
 case atStart=>exact⟨[],l,by omega,a3,a0,by unfold Hid;simp⟩
 obtain⟨d,left,b1,u,C,t⟩:=hrel;have b2:W.heap.size<wr.heap.size:=u.lt;gi_wp2_with (refine fR _ rfl _ rfl mv W.heap.size l left rfl u.o ?_ ?_)
 .intro a9;subst a9;gi_wp2
  go_end0
  refine⟨⟨_,rfl⟩,.inl ⟨_,d,?_,C.o⟩⟩;have:=t.o;simpa using this
 intro f h v m N au R ac j a6;have av:d.length<l.length:=by have h1:=t.length_eq;simp only[ft,fs]at h1;have:=gO N;omega
 have b3:m.heap.size=wr.heap.size:=j.size;have L:y (λk=>k=W.heap.size) d m:=s.o _ _ _ _ _ C.o ⟨j.os,j.tape,j.output,by omega,λk _ c _=>j.block k c,λk c=>.inl c,λk c=>by rw[c];omega⟩;have a1:=Z L;have a4:=Z R;have ay:=Z j;clear R L;simp only[pJ]at a6 ⊢;obtain⟨fn,b5,aC,aS,hy,G⟩:=HY.o (λk=>k=W.heap.size) d (f,h) (m.alloc (he #[em U f,em U h] 36)) (s.o _ _ _ _ _ a1.o (de.alloc (λk c=>by rw[c];omega) _)) ⟨av,au⟩;have a5:=Z G;clear G;have b4:(Instr.yield ax #[Value.agg #[em U f,em U h]]).run prog (m.alloc (he #[em U f,em U h] 36))=_:=hy;gi_wp2
 refine a5.mono ?_;have a2:Hid (((d++[(f,h)])++(cB left (f,h)).map (·.1)).Perm (l.map (·.1))):=by refine List.Perm.trans ?_ t.o;rw[hd];exact(jw u.nodup N).append_left d
 rintro e w3(⟨rfl,a7,b0,ao⟩|⟨rfl,a8⟩)
 .gi_wp2
  gi_roundg (left.length)
  case rel=> refine⟨d++[(f,h)],cB left (f,h),ac,?_,a7,a2⟩;exact(a4.kept ((gz m _).trans ao))
  omega
 gi_wp2
 refine hw (hv rfl _ _ _) rfl ?_;exact⟨⟨_,rfl⟩,.inr ⟨_,d++[(f,h)],trivial,a8⟩⟩
theorem yY(n:Nat)(hn:1<=n)(q:Nat)(mv:Option Nat)(l:List (RK×gs))(r:fx)(A:r.cell? ⟨q,0,Y⟩=X (.map mv))(M:cw recB r mv l)(al:∀b,mv=X b->b<r.heap.size):
 jl gq n prog 95 #[e6 (X ⟨q,0,Y⟩)] (λx:RK=> #[recK x]) (λxs=>xs.Perm (l.map (·.1))) (λ_=>True) (λd x=>d.length<l.length/\rkOk x) (λ_=>False) r:=by
 intro ax y Jx W z E H D;have c0:W.cell? ⟨q,0,Y⟩=X (.map mv):=(z.cell (p:=⟨q,0,Y⟩) (bD A)).trans A;have ad:cw recB W mv l:=M.block (λb hb=>z.block b (al b hb));have s:=Z E;have HY:=Z H;have V:=Z D;clear E H D z A M;refine g7 func95 rfl trivial ?_ rfl;simp only[ntmps95,fy,fl,gi,gx,gt,fb,eQ,fz,fr,gb,gd];gi_wp2_with (refine eZ _ rfl _ _ rfl 52 underlying93 mv l rfl ad ?_;intro w1 O i T)
 have I:y (λk=>k=W.heap.size) [] w1:=s.o _ _ _ _ _ V.o ⟨i.os,i.tape,i.output,i.size,λk c _ _=>i.block k c,λk c=>.inr (by rw[c];exact ej _),λk c=>by rw[c,T];omega⟩;have a3:=Z O;have a0:=Z I;have aT:W.heap.size<w1.heap.size:=by omega
 clear O I i T;gi_loopg [] (l.length+1) (λg wr=>∃d left,left.length<g/\Hid (dS recB wr mv W.heap.size l left)/\Hid (y (λk=>k=W.heap.size) d wr)/\Hid ((d++left.map (·.1)).Perm (l.map (·.1))))
 case atStart=>exact⟨[],l,by omega,a3,a0,by unfold Hid;simp⟩
 obtain⟨d,left,b1,u,C,t⟩:=hrel;have b2:W.heap.size<wr.heap.size:=u.lt;gi_wp2_with (refine fR _ rfl _ rfl mv W.heap.size l left rfl u.o ?_ ?_)
 .intro a9;subst a9;gi_wp2
  go_end0
  refine⟨⟨_,rfl⟩,.inl ⟨_,d,?_,C.o⟩⟩;have:=t.o;simpa using this
 intro f h v m N au R ac j a6;have av:d.length<l.length:=by have h1:=t.length_eq;simp only[ft,fs]at h1;have:=gO N;omega
 have b3:m.heap.size=wr.heap.size:=j.size;have L:y (λk=>k=W.heap.size) d m:=s.o _ _ _ _ _ C.o ⟨j.os,j.tape,j.output,by omega,λk _ c _=>j.block k c,λk c=>.inl c,λk c=>by rw[c];omega⟩;have a1:=Z L;have a4:=Z R;have ay:=Z j;clear R L;simp only[pJ]at a6 ⊢;obtain⟨fn,b5,aC,aS,hy,G⟩:=HY.o (λk=>k=W.heap.size) d (f,h) (m.alloc (he #[em U f,em U h] 36)) (s.o _ _ _ _ _ a1.o (de.alloc (λk c=>by rw[c];omega) _)) ⟨av,au⟩;have a5:=Z G;clear G;have b4:(Instr.yield ax #[Value.agg #[em U f,em U h]]).run prog (m.alloc (he #[em U f,em U h] 36))=_:=hy;gi_wp2
 refine a5.mono ?_;have a2:Hid (((d++[(f,h)])++(cB left (f,h)).map (·.1)).Perm (l.map (·.1))):=by refine List.Perm.trans ?_ t.o;rw[hd];exact(jw u.nodup N).append_left d
 rintro e w3(⟨rfl,a7,b0,ao⟩|⟨rfl,a8⟩)
 .gi_wp2
  gi_roundg (left.length)
  case rel=> refine⟨d++[(f,h)],cB left (f,h),ac,?_,a7,a2⟩;exact(a4.kept ((gz m _).trans ao))
  omega
 gi_wp2
 refine hw (hv rfl _ _ _) rfl ?_;exact⟨⟨_,rfl⟩,.inr ⟨_,d++[(f,h)],trivial,a8⟩⟩
theorem wO(n:Nat)(hn:1<=n)(q:Nat)(mv:Option Nat)(l:List (RK×gs))(r:fx)(A:r.cell? ⟨q,0,Y⟩=X (.map mv))(M:cw recB r mv l)(al:∀b,mv=X b->b<r.heap.size):
 jl gq n prog 108 #[e6 (X ⟨q,0,Y⟩)] (λx:RK=> #[recK x]) (λxs=>xs.Perm (l.map (·.1))) (λ_=>True) (λd x=>d.length<l.length/\rkOk x) (λ_=>False) r:=by
 intro ax y Jx W z E H D;have c0:W.cell? ⟨q,0,Y⟩=X (.map mv):=(z.cell (p:=⟨q,0,Y⟩) (bD A)).trans A;have ad:cw recB W mv l:=M.block (λb hb=>z.block b (al b hb));have s:=Z E;have HY:=Z H;have V:=Z D;clear E H D z A M;refine g7 func108 rfl trivial ?_ rfl;simp only[ntmps108,fy,fl,gi,gx,gt,fb,eQ,fz,fr,gb,gd];gi_wp2_with (refine eZ _ rfl _ _ rfl 64 underlying113 mv l rfl ad ?_;intro w1 O i T)
 have I:y (λk=>k=W.heap.size) [] w1:=s.o _ _ _ _ _ V.o ⟨i.os,i.tape,i.output,i.size,λk c _ _=>i.block k c,λk c=>.inr (by rw[c];exact ej _),λk c=>by rw[c,T];omega⟩;have a3:=Z O;have a0:=Z I;have aT:W.heap.size<w1.heap.size:=by omega
 clear O I i T;gi_loopg [] (l.length+1) (λg wr=>∃d left,left.length<g/\Hid (dS recB wr mv W.heap.size l left)/\Hid (y (λk=>k=W.heap.size) d wr)/\Hid ((d++left.map (·.1)).Perm (l.map (·.1))))
 case atStart=>exact⟨[],l,by omega,a3,a0,by unfold Hid;simp⟩
 obtain⟨d,left,b1,u,C,t⟩:=hrel;have b2:W.heap.size<wr.heap.size:=u.lt;gi_wp2_with (refine fR _ rfl _ rfl mv W.heap.size l left rfl u.o ?_ ?_)
 .intro a9;subst a9;gi_wp2
  go_end0
  refine⟨⟨_,rfl⟩,.inl ⟨_,d,?_,C.o⟩⟩;have:=t.o;simpa using this
 intro f h v m N au R ac j a6;have av:d.length<l.length:=by have h1:=t.length_eq;simp only[ft,fs]at h1;have:=gO N;omega
 have b3:m.heap.size=wr.heap.size:=j.size;have L:y (λk=>k=W.heap.size) d m:=s.o _ _ _ _ _ C.o ⟨j.os,j.tape,j.output,by omega,λk _ c _=>j.block k c,λk c=>.inl c,λk c=>by rw[c];omega⟩;have a1:=Z L;have a4:=Z R;have ay:=Z j;clear R L;simp only[pJ]at a6 ⊢;obtain⟨fn,b5,aC,aS,hy,G⟩:=HY.o (λk=>k=W.heap.size) d (f,h) (m.alloc (he #[em U f,em U h] 36)) (s.o _ _ _ _ _ a1.o (de.alloc (λk c=>by rw[c];omega) _)) ⟨av,au⟩;have a5:=Z G;clear G;have b4:(Instr.yield ax #[Value.agg #[em U f,em U h]]).run prog (m.alloc (he #[em U f,em U h] 36))=_:=hy;gi_wp2
 refine a5.mono ?_;have a2:Hid (((d++[(f,h)])++(cB left (f,h)).map (·.1)).Perm (l.map (·.1))):=by refine List.Perm.trans ?_ t.o;rw[hd];exact(jw u.nodup N).append_left d
 rintro e w3(⟨rfl,a7,b0,ao⟩|⟨rfl,a8⟩)
 .gi_wp2
  gi_roundg (left.length)
  case rel=> refine⟨d++[(f,h)],cB left (f,h),ac,?_,a7,a2⟩;exact(a4.kept ((gz m _).trans ao))
  omega
 gi_wp2
 refine hw (hv rfl _ _ _) rfl ?_;exact⟨⟨_,rfl⟩,.inr ⟨_,d++[(f,h)],trivial,a8⟩⟩
theorem wN(n:Nat)(hn:1<=n)(s:Nat)(mv:Option Nat)(l:List (PK×gs))(t:fx)(D:t.cell? ⟨s,0,Y⟩=X (.map mv))(O:cw pairB t mv l)(ao:∀b,mv=X b->b<t.heap.size):
 jl gq n prog 121 #[e6 (X ⟨s,0,Y⟩)] (λx:PK=> #[pairV x]) (λxs=>xs.Perm (l.map (·.1))) (λ_=>True) (λd x=>d.length<l.length/\pkOk x) (λ_=>False) t:=by
 intro ay A Jx W C H L G;have c0:W.cell? ⟨s,0,Y⟩=X (.map mv):=(C.cell (p:=⟨s,0,Y⟩) (bD D)).trans D;have al:cw pairB W mv l:=O.block (λb hb=>C.block b (ao b hb));have u:=Z H;have HY:=Z L;have H0:=Z G;clear H L G C D O;refine g7 func121 rfl trivial ?_ rfl;simp only[ntmps121,fy,fl,gi,gx,gt,fb,eQ,fz,fr,gb,gd];gi_wp2_with (refine eZ _ rfl _ _ rfl 139 underlying115 mv l rfl al ?_;intro w1 T m a0)
 have M:A (λk=>k=W.heap.size) [] w1:=u.o _ _ _ _ _ H0.o ⟨m.os,m.tape,m.output,m.size,λk c _ _=>m.block k c,λk c=>.inr (by rw[c];exact ej _),λk c=>by rw[c,a0];omega⟩;have a4:=Z T;have a1:=Z M;have b0:W.heap.size<w1.heap.size:=by omega
 clear T M m a0;gi_loopg [] (l.length+1) (λg wr=>∃d left,left.length<g/\Hid (dS pairB wr mv W.heap.size l left)/\Hid (A (λk=>k=W.heap.size) d wr)/\Hid ((d++left.map (·.1)).Perm (l.map (·.1))))
 case atStart=>exact⟨[],l,by omega,a4,a1,by unfold Hid;simp⟩
 obtain⟨d,left,b2,z,E,y⟩:=hrel;have b3:W.heap.size<wr.heap.size:=z.lt;gi_wp2_with (refine fR _ rfl _ rfl mv W.heap.size l left rfl z.o ?_ ?_)
 .intro ac;subst ac;gi_wp2
  go_end0
  refine⟨⟨_,rfl⟩,.inl ⟨_,d,?_,E.o⟩⟩;have:=y.o;simpa using this
 intro f h i j v r R av V ad q a7;have ax:d.length<l.length:=by have h1:=y.length_eq;simp only[ft,fs]at h1;have:=gO R;omega
 have b4:r.heap.size=wr.heap.size:=q.size;have N:A (λk=>k=W.heap.size) d r:=u.o _ _ _ _ _ E.o ⟨q.os,q.tape,q.output,by omega,λk _ c _=>q.block k c,λk c=>.inl c,λk c=>by rw[c];omega⟩;have a2:=Z N;have a5:=Z V;have aC:=Z q;clear V N;simp only[yL]at a7 ⊢;obtain⟨fn,b6,aS,aT,hy,I⟩:=HY.o (λk=>k=W.heap.size) d ((f,h),(i,j)) (r.alloc (he #[em U f,em U h,em U i,em U j] 134)) (u.o _ _ _ _ _ a2.o (de.alloc (λk c=>by rw[c];omega) _)) ⟨ax,av⟩;have a6:=Z I;clear I;have b5:(Instr.yield ay #[Value.agg #[em U f,em U h,em U i,em U j]]).run prog (r.alloc (he #[em U f,em U h,em U i,em U j] 134))=_:=hy;gi_wp2
 refine a6.mono ?_;have a3:Hid (((d++[((f,h),(i,j))])++(cB left ((f,h),(i,j))).map (·.1)).Perm (l.map (·.1))):=by refine List.Perm.trans ?_ y.o;rw[hd];exact(jw z.nodup R).append_left d
 rintro e w3(⟨rfl,a8,b1,au⟩|⟨rfl,a9⟩)
 .gi_wp2
  gi_roundg (left.length)
  case rel=> refine⟨d++[((f,h),(i,j))],cB left ((f,h),(i,j)),ad,?_,a8,a3⟩;exact(a5.kept ((gz r _).trans au))
  omega
 gi_wp2
 refine hw (hv rfl _ _ _) rfl ?_;exact⟨⟨_,rfl⟩,.inr ⟨_,d++[((f,h),(i,j))],trivial,a9⟩⟩
theorem A7(mv:Option Nat)(w:fx):ht prog 48 #[.map mv] w λe w'=>e=e7 (.func (.func 89) #[] #[e6 (X ⟨w.heap.size,0,Y⟩)])/\w'=w.alloc (e5 #[.map mv] 92):=by
 go_enter func48,ntmps48;go_wp2_with fail;go_ret;exact⟨rfl,rfl⟩
theorem A6(mv:Option Nat)(w:fx):ht prog 51 #[.map mv] w λe w'=>e=e7 (.func (.func 95) #[] #[e6 (X ⟨w.heap.size,0,Y⟩)])/\w'=w.alloc (e5 #[.map mv] 93):=by
 go_enter func51,ntmps51;go_wp2_with fail;go_ret;exact⟨rfl,rfl⟩
theorem A5(mv:Option Nat)(w:fx):ht prog 61 #[.map mv] w λe w'=>e=e7 (.func (.func 108) #[] #[e6 (X ⟨w.heap.size,0,Y⟩)])/\w'=w.alloc (e5 #[.map mv] 113):=by
 go_enter func61,ntmps61;go_wp2_with fail;go_ret;exact⟨rfl,rfl⟩
theorem A4(mv:Option Nat)(w:fx):ht prog 66 #[.map mv] w λe w'=>e=e7 (.func (.func 121) #[] #[e6 (X ⟨w.heap.size,0,Y⟩)])/\w'=w.alloc (e5 #[.map mv] 115):=by
 go_enter func66,ntmps66;go_wp2_with fail;go_ret;exact⟨rfl,rfl⟩
end
section
open Go.RowKit Go.Shelf
section
variable {F:Fence} {n:Nat} {P:Program}
theorem nK{α:Type}{g:Operand}{ps:Array Tmp}{assign body:Code}{Q:Exit->Act->fx->Prop}{a:Act}{w:fx}
 (bw:F.round=Y)(h1:1<=n){gf:Nat}{lb:Array gs}(hg:a.eval g=.func (.func gf) #[] lb)(ay:F.fn gf)(eg:∀args w,(callFunc gf args).run P w=.ok (.enter gf args) w)
 {a1:α->Array gs}{S Sp:List α->Prop}{G:List α->α->Prop}{M0:Nat->Prop}{w0:fx}(bA:jl F (n-1) P gf lb a1 S Sp G M0 w0)(a5:∀k,M0 k->k<w.heap.size)(ao:Bw w0 w)(bv:∀x,(a1 x).size=ps.size)
 (I:(Nat->Prop)->List α->fx->Prop)(Ix:Code->(Nat->Prop)->List α->fx->Prop)(H:ig w.heap.size I)(a4:∀c,ig w.heap.size (Ix c))(a7:∀M s C,I M s C->∀k,M k->k<C.heap.size)(a8:∀c M s C,Ix c M s C->∀k,M k->k<C.heap.size)
 (h0:I M0 [] w)(a₁:α->Nat->Act)(ob:α->Obj)
 (b6:∀(l:Nat)(x:α)(W:fx)(K:Act->fx->Prop),K (a₁ x W.heap.size) (W.alloc (ob x))->
  assign.wpIn (F.inRound l) (n-1-1) P (Exit.then K (λ_ _ _=>False)) {tmps:=(ps.zip (a1 x)).foldl (λt(p,v)=>t.setIfInBounds p v) a.tmps,defers:=[]} W)
 (b8:∀(l:Nat)(M:Nat->Prop)(d:List α)(x:α)(W:fx)(N:Nat),I M d W->G d x->w.heap.size<=N->W.heap[N]?=X (ob x)->body.wpIn (F.inRound l) (n-1-1) P (BS M I Ix (d++[x]) W) (a₁ x N) W)
 (b9:∀(D:Nat)(M:Nat->Prop)(xs:List α)(W:fx),w.heap.size<=D->S xs->I M xs W->W.heap[D]?=X (.deferred (X []))->Q .normal {a with defers:={target:=.collected D,args:= #[]}::a.defers} W)
 (bB:∀(D:Nat)(c:Code)(M:Nat->Prop)(d:List α)(W:fx),w.heap.size<=D->Sp d->Ix c M d W->W.heap[D]?=X (.deferred (X []))->c.wpIn F n P Q {a with defers:={target:=.collected D,args:= #[]}::a.defers} W):
 (Code.rangeFunc g ps assign body).wpIn F n P Q a w:=by
 refine wpIn_rangeFunc ?_;intro fn bb;rw[bw];obtain⟨rec,A⟩:∃rec:LoopState->Option Code->Loop,rec=λst pe=>{state:=st,pending:=pe,fn,tmps:=a.tmps,params:=ps,assign,body,defers:=w.heap.size}:=⟨_,rfl⟩;obtain⟨r,a0⟩:=Qe ((w.alloc (.deferred (X []))).alloc (.loop (rec .ready Y)));have aT:r.heap[w.heap.size+1]?=X (.loop (rec .ready Y)):=by rw[<- a0];have:=ex (w.alloc (.deferred (X []))) (.loop (rec .ready Y));rwa[hj]at this
 have aS:r.heap[w.heap.size]?=X (.deferred (X [])):=by rw[<- a0];exact(gp _ _ _ (by simp)).trans (ex w _)
 have aC:I M0 [] r:=by rw[<- a0];exact H _ _ _ _ _ (H _ _ _ _ _ h0 (de.alloc a5 _)) (de.alloc (λk b=>by have:=a5 k b;simp;omega) _)
 have bO:r.heap.size=w.heap.size+2:=by rw[<- a0];simp
 have b7:Bw w0 r:=by rw[<- a0];exact ao.trans ((((fp _ w).alloc (ej _) _).alloc (by simp) _).mono ao.size)
 refine⟨w.heap.size+1,[{target:=.collected w.heap.size,args:= #[]}],r,{target:=.fn (.func gf) lb,args:= #[.func (.yield (w.heap.size+1)) #[] #[]]},r,gf,
  #[.func (.yield (w.heap.size+1)) #[] #[]]++lb,r,?_,?_,?_,?_,λ_=>h1,?_⟩
 .rw[<- a0,A];exact run_enterLoop_outer _ _ _ _ _
 .simp only[resolve,hg];simp[go_sem]
 .intro f' au;simp[Target.leads]at au;subst au;exact ay
 .simp[invoke,go_sem,eg]
 refine(bA (w.heap.size+1)
  (λM d W=>I M d W/\¬M (w.heap.size+1)/\¬M w.heap.size/\W.heap[w.heap.size+1]?=X (.loop (rec .ready Y))/\W.heap[w.heap.size]?=X (.deferred (X [])))
  (λM d W=>∃c,Ix c M d W/\W.heap[w.heap.size+1]?=X (.loop (rec .done (X c)))/\W.heap[w.heap.size]?=X (.deferred (X [])))
  r b7
  (λM s C M' ax hs y=>by
   obtain⟨z,n1,n2,j,b⟩:=hs
   have bl:w.heap.size+1<C.heap.size:=(Array.getElem?_eq_some_iff.1 j).1
   have hT:de w.heap.size M C M' ax:=⟨y.os,y.tape,y.output,y.size,λk b h2 h3=>y.block k b h2 λhB o O=>h3 (by omega) o O,y.new,y.lt⟩
   exact⟨H _ _ _ _ _ z hT,λh=>by rcases y.new _ h with h|h;exact n1 h;omega,λh=>by rcases y.new _ h with h|h;exact n2 h;omega,
    (y.block _ bl n1 (λhB=>by omega)).trans j,(y.block _ (by omega) n2 (λhB=>by omega)).trans b⟩)
  ?_ ⟨aC,λh=>by have:=a5 _ h;omega,λh=>by have:=a5 _ h;omega,aT,aS⟩).mono ?_
 ·
  rintro M d x W⟨z,n1,n2,j,b⟩bt
  have ac:w.heap.size+1<W.heap.size:=(Array.getElem?_eq_some_iff.1 j).1
  have hy:=run_yield (P:=P) (args:=a1 x) j (by rw[A];exact bv x)
  rw[A]at hy
  refine⟨fn,_,assign,body,hy,?_⟩
  obtain⟨V,T⟩:=Qe (W.alloc (ob x))
  have ad:∀k,k<W.heap.size->V.heap[k]?=W.heap[k]?:=λk b=>by rw[<- T];exact gp W _ k b
  have b1:V.heap[W.heap.size]?=X (ob x):=by rw[<- T];exact ex W _
  have bY:V.heap.size=W.heap.size+1:=by rw[<- T];simp
  have a9:V.heap[w.heap.size+1]?=X (.loop (rec .ready Y)):=(ad _ ac).trans j
  have a6:V.heap[w.heap.size]?=X (.deferred (X [])):=(ad _ (by omega)).trans b
  have al:=a7 _ _ _ z
  have av:I M d V:=by rw[<- T];exact H _ _ _ _ _ z (de.alloc al _)
  have b5:∀(W9:fx),nc M V W9/\hC V W9->nc M W W9/\hC W W9:=λW9 h=>⟨λk b=>(h.1 k b).trans (ad k (al k b)),(by rw[<- T]at h;exact(gz W _).trans h.2)⟩
  have b2:W.heap.size≠w.heap.size+1:=by omega
  have b3:w.heap.size<=W.heap.size:=by omega
  have ac:w.heap.size+1<V.heap.size:=by omega
  refine roundIn_of_wpIn bb (b6 _ x W _ ?_)
  rw[T]
  refine⟨_,run_beginRound a9 (by rw[A]),?_⟩
  have bs:(V.putObj (w.heap.size+1) (.loop {rec .ready Y with state:=.busy})).heap[w.heap.size+1]?=X (.loop {rec .ready Y with state:=.busy}):=hz ac
  have bd:(V.putObj (w.heap.size+1) (.loop {rec .ready Y with state:=.busy})).heap[w.heap.size]?=X (.deferred (X [])):=(er (by omega)).trans a6
  have b0:=a7 _ _ _ av
  have bc:=H _ _ _ _ _ av (de.put b0 (w.heap.size+1) (by omega) _ (.loop {rec .ready Y with state:=.busy}) a9 rfl)
  refine wpIn_mono (b8 _ M d x _ W.heap.size bc bt b3 ((er b2).trans b1)) ?_
  have a2:∀(q:Option Code)(f:fx),hC (V.putObj (w.heap.size+1) (.loop {rec .ready Y with state:=.busy})) f->
   (Instr.endRound (w.heap.size+1) q).run P f=.ok (e4 q.isNone) (f.putObj (w.heap.size+1) (.loop (rec (if q.isNone then .ready else .done) q)))/\
   f.heap[w.heap.size+1]?=X (.loop {rec .ready Y with state:=.busy})/\
   (f.putObj (w.heap.size+1) (.loop (rec (if q.isNone then .ready else .done) q))).heap[w.heap.size+1]?=X (.loop (rec (if q.isNone then .ready else .done) q))/\
   (f.putObj (w.heap.size+1) (.loop (rec (if q.isNone then .ready else .done) q))).heap[w.heap.size]?=X (.deferred (X [])):=λq f i=>by
   have m:=i.same _ _ bs rfl
   have:=run_endRound (P:=P) q m
   rw[A]at this ⊢
   exact⟨this,by rw[A]at m;exact m,hz (Array.getElem?_eq_some_iff.1 m).1,(er (by omega)).trans (i.same _ _ bd rfl)⟩
  rintro e a3 f hp
  cases e with
  |normal=>
   obtain⟨i,bk,u⟩:=hp
   obtain⟨R,m,E,L⟩:=a2 Y f i
   refine⟨_,_,R,.inl ⟨rfl,⟨H _ _ _ _ _ u (de.put (a7 _ _ _ u) _ (by omega) _ _ m rfl),n1,n2,E,L⟩,b5 _ ⟨λk a6=>?_,?_⟩⟩⟩
   .have e1:k≠w.heap.size+1:=λe=>n1 (e▸a6)
    exact((er (by omega)).trans (bk k a6)).trans (er (by omega))
   .refine⟨g8 (g8 (grownBy_putObj' V (w.heap.size+1) _).size i.size) (grownBy_putObj' f (w.heap.size+1) _).size,λk o O hc=>?_⟩
    by_cases e1:k=w.heap.size+1
    .subst e1
     rw[a9]at O
     injection O with O
     subst O
     exact E
    .exact(er (by omega)).trans (i.same k o ((er (by omega)).trans O) hc)
  |ret=>
   obtain⟨i,u⟩:=hp
   obtain⟨R,m,E,L⟩:=a2 (X .ret) f i
   exact⟨_,_,R,.inr ⟨rfl,.ret,a4 _ _ _ _ _ _ u (de.put (a8 _ _ _ _ u) _ (by omega) _ _ m rfl),E,L⟩⟩
  |exit id=>
   obtain⟨i,u⟩:=hp
   obtain⟨R,m,E,L⟩:=a2 (X (.exit id)) f i
   exact⟨_,_,R,.inr ⟨rfl,.exit id,a4 _ _ _ _ _ _ u (de.put (a8 _ _ _ _ u) _ (by omega) _ _ m rfl),E,L⟩⟩
  |goto t=>
   obtain⟨i,u⟩:=hp
   obtain⟨R,m,E,L⟩:=a2 (X (.goto t)) f i
   exact⟨_,_,R,.inr ⟨rfl,.goto t,a4 _ _ _ _ _ _ u (de.put (a8 _ _ _ _ u) _ (by omega) _ _ m rfl),E,L⟩⟩
  |panic ch=>exact hp.elim
  |outgrown=>exact hp.elim
 ·
  rintro e W2⟨⟨v,rfl⟩,(⟨M,xs,hS,z,n1,n2,j,b⟩|⟨M,d,b4,c,z,j,b⟩)⟩
  .exact⟨Y,_,by have:=run_endLoop (P:=P) j (by rw[A];simp);rw[A]at this;exact this,b9 _ M xs _ (ej _) hS (H _ _ _ _ _ z (de.put (a7 _ _ _ z) _ (by omega) _ _ j rfl)) ((er (by omega)).trans b)⟩
  .exact⟨X c,_,by have:=run_endLoop (P:=P) j (by rw[A];simp);rw[A]at this;exact this,bB _ c M d _ (ej _) b4 (a4 c _ _ _ _ _ z (de.put (a8 _ _ _ _ z) _ (by omega) _ _ j rfl)) ((er (by omega)).trans b)⟩
end
end
section
open Go.RowKit Go.Maps Go.Shelf
attribute [local go_sem] Oper.semAt_some
theorem C8:(prog.info? 134).map (λi=>(i.zero,i.size,i.bytes))=X (X (.agg #[J U 0,J U 0,J U 0,J U 0]),4,32):=by kernel_rfl
def pkCells(a:PK):List gs:=[J U a.1.1,J U a.1.2,J U a.2.1,J U a.2.2]
structure BN(w:fx)(Bo:Nat)(M:Nat->Prop)(pre:List RK)(W:fx):Prop where
 o:∃v,Boxed W Bo 52 v/\W.ownsRow w.heap.size 36 2 v pre.length (pre.flatMap rkCells)/\∀g,v.ownBlock=some g->¬M g
 b:Bw w W
 lt:∀k,M k->k<W.heap.size/\w.heap.size<=k
 box:¬M Bo
theorem BN.stable(w:fx)(p B:Nat)(G:w.heap.size<=B):ig B (BN w p):=by
 intro M s q D C h d;obtain⟨v,m,u,hn⟩:=h.o;have A:∀k,k<q.heap.size->¬M k->(∃x t,q.heap[k]?=X (e5 x t (0,0)))->C.heap[k]?=q.heap[k]?:=λk c y r=>by obtain⟨x,t,r⟩:=r;exact d.block k c y λ_ o l=>by rw[r]at l;injection l with l;subst l;rfl
 refine⟨⟨v,(A p (ae m) h.box ⟨_,_,m⟩).trans m,ai u (λg f=>?_),λg f i=>?_⟩,?_,λk j=>⟨d.lt k j,?_⟩,λi=>?_⟩
 .obtain⟨E,z⟩:=aH u f;exact A g (ae z) (hn g f) ⟨_,_,z⟩
 .have:=l0 u g f;rcases d.new g i with c|c
  .exact hn g f c
  omega
 .have e:=h.b;exact⟨d.os.trans e.os,d.tape.trans e.tape,d.output.trans e.output,g8 e.size d.size,λk j=>(d.block k (by have:=e.size;omega) (λi=>by have:=(h.lt k i).2;omega) (λy=>by omega)).trans (e.block k j)⟩
 .rcases d.new k j with c|c
  .exact(h.lt k c).2
  have:=h.b.size;omega
 rcases d.new p i with c|c
 .exact h.box c
 have:=ae m;omega
theorem nG(n:Nat)(hn:3<=n)(g:Nat)(lb:Array gs)(eg:∀args w,(callFunc g args).run prog w=.ok (.enter g args) w)(O Sp:List RK->Prop)(G:List RK->RK->Prop)(hG:∀f x,G f x->f.length<100000000)(w:fx)
 (ad:jl gq (n-1) prog g lb (λx:RK=> #[recK x]) O Sp G (λ_=>False) w):
 CallsIn gq n prog 140 #[e9 Y 0 0,.func (.func g) #[] lb] w λe w'=>∃(v:gs)(t:List RK),e=e7 v/\O t/\w'.ownsRow w.heap.size 36 2 v t.length (t.flatMap rkCells)/\Bw w w':=by
 have C:1<=n:=by omega
 refine callsIn_of_wp_marks func140 rfl trivial ?_ rfl;simp only[ntmps140,fy,fl,gi,gx,gt,fb,eQ,fz,fr,gb,gd];gi_wp2
 have bO:=Boxed.new w 52 (e9 Y 0 0);have E:Bw w (w.alloc (e5 #[e9 Y 0 0] 52)):=(fp _ w).alloc (ej _) _
 refine nK rfl C (gf:=g) (lb:=lb) rfl trivial eg ad (λk d=>d.elim) E (λ_=>rfl) (BN w w.heap.size) (λ_ _ _ _=>False) (BN.stable w _ _ E.size) (λ_ _ _ _ _ _ h _=>h) (λM s ax h k d=>(h.lt k d).1) (λ_ _ _ _ h=>h.elim)
  ⟨⟨_,bO,hI _ _ _ _,λg hg=>by cases hg⟩,E,λk d=>d.elim,λh=>h⟩
  (λx N=>{tmps:= #[e9 Y 0 0,.func (.func g) #[] lb,e6 (X ⟨w.heap.size,0,Y⟩),undef,e9 Y 0 0,e6 (X ⟨N,0,Y⟩),.func (.func g) #[] lb,recK x,undef,undef,undef,undef,undef],defers:=[]}) (λx=>.cells (rkCells x).toArray 36) ?assign ?body ?done ?stop
 case assign=>
  intro l x W K j;obtain⟨z,A⟩:=x;unfold recK rkCells at*;dsimp only at*;gi_wp2
  exact j
 case body=>
  rintro l M f x W N h a0 ay H;have a0:=hG _ _ a0;obtain⟨v,r,p,a2⟩:=h.o;have hc:=r.cell;obtain⟨i0,hi,ao,au,av⟩:=info_parts i36;have i:=Z h.b;have u:=Z p;have HV:=Z r;have L:=Z a2;have I:=Z h;clear h p r a2;obtain⟨z,A⟩:=x;unfold recK at*;unfold rkCells at H;dsimp only at H ⊢;have a6:Hid ((f++[(z,A)]).flatMap rkCells=f.flatMap rkCells++[J U z,J U A]):=by unfold Hid;simp[rkCells]
  obtain⟨n0,n1⟩:=dm H;generalize hxs:f.flatMap rkCells=xs0 at*;clear hxs;gi_wp2_with (gi_at_builtin;refine wpListIn_append_own_at _ rfl _ _ 52 rfl w.heap.size 36 i0 (.agg #[J U 0,J U 0]) 2 16 underlying52 hi ao au av rfl (by decide) _ _ _ rfl (u.o.alloc _) ⟨W.heap.size,0,Y⟩ 1 1 [J U z,J U A] rfl rfl (cell_two_new _ _ _ _) (by simp[Value.oneCell']) (by unfold maxLen;omega) (by omega) (by have:=i.o.size;simp;omega) ?_;intro v' w1 a3 V _ a1;obtain⟨g',a7,rfl⟩:=ownsRow_succ a3;obtain⟨a4,al,ac,a8,R⟩:=HV.o.appended (by decide) u.o i.o.size (ej _) a3 V;have aC:=a4.cell;have aS:=a4.frozen;have a5:=Z a1;clear a1)
  have aT:=i.size;have y:=I.lt;have T:=I.box;have a9:∀k,M k->(w1.setCell ⟨w.heap.size,0,Y⟩ (e9 (X ⟨g',0,Y⟩) (f.length+1) a7)).heap[k]?=W.heap[k]?:=λk d=>by have C:=(y k d).1;rw[g6 _ _ _ _ (λ(e:k=w.heap.size)=>T (e▸d)),V.block k (by simp;omega) (λe=>L.o k e.symm d),gp _ _ _ C]
  refine⟨a8,a9,⟨⟨_,al,?_,λq m hm=>?_⟩,i.trans R,λk d=>⟨?_,(y k d).2⟩,T⟩⟩
  .rw[ft,a6.o];exact ac
  .rcases a5.o with e|e
   .exact L q (e▸m) hm
   rw[e]at m;injection m with m
   have:=(y q hm).1;simp at m;omega
  exact Nat.lt_of_lt_of_le (y k d).1 R.size
 case done=>
  rintro D M t W hD hS h j;obtain⟨v,r,p,_⟩:=h.o;have hc:=r.cell;have u:=Z p;have i:=Z h.b;clear h p;gi_wp2
  refine⟨by simp,.inl ⟨_,_,rfl,run_takeDeferred j,?_⟩⟩;exact⟨_,results_tmp rfl _ _ _,v,t,rfl,hS,ownsRow_putObj u.o _ j rfl,i.o.trans (belowK_b (w:=w) (ej _) W D _ _ (by simp at hD;omega) j rfl rfl)⟩
 rintro D c M f W _ _ h _;exact h.elim
theorem uC(n:Nat)(hn:4<=n)(g:Nat)(lb:Array gs)(h:∀args w,(callFunc g args).run prog w=.ok (.enter g args) w)(c d:List RK->Prop)(G:List RK->RK->Prop)(i:∀f x,G f x->f.length<100000000)(w:fx)
 (m:jl gq (n-1-1) prog g lb (λx:RK=> #[recK x]) c d G (λ_=>False) w):
 ht prog 88 #[.func (.func g) #[] lb] w λe w'=>∃(v:gs)(b:List RK),e=e7 v/\c b/\w'.ownsRow w.heap.size 36 2 v b.length (b.flatMap rkCells)/\Bw w w':=by
 have p:1<=n:=by omega
 refine(callsIn_wide (n:=n)).1 ?_;refine g7 func88 rfl trivial ?_ rfl;simp only[ntmps88,fy,fl,gi,gx,gt,fb,eQ,fz,fr,gb,gd];gi_wp2_with (refine⟨trivial,?_⟩;gi_at_call 140;refine(nG (n-1) (by omega) g lb h c d G i _ m).mono ?_;rintro e w'⟨v,b,rfl,j,l,k⟩)
 go_ret;exact⟨v,b,rfl,j,l,k⟩
structure BO(w:fx)(Bo:Nat)(M:Nat->Prop)(pre:List PK)(W:fx):Prop where
 o:∃v,Boxed W Bo 131 v/\W.ownsRow w.heap.size 134 4 v pre.length (pre.flatMap pkCells)/\∀g,v.ownBlock=some g->¬M g
 b:Bw w W
 lt:∀k,M k->k<W.heap.size/\w.heap.size<=k
 box:¬M Bo
theorem BO.stable(w:fx)(p B:Nat)(G:w.heap.size<=B):ig B (BO w p):=by
 intro M s q D C h d;obtain⟨v,m,u,hn⟩:=h.o;have A:∀k,k<q.heap.size->¬M k->(∃x t,q.heap[k]?=X (e5 x t (0,0)))->C.heap[k]?=q.heap[k]?:=λk c y r=>by obtain⟨x,t,r⟩:=r;exact d.block k c y λ_ o l=>by rw[r]at l;injection l with l;subst l;rfl
 refine⟨⟨v,(A p (ae m) h.box ⟨_,_,m⟩).trans m,ai u (λg f=>?_),λg f i=>?_⟩,?_,λk j=>⟨d.lt k j,?_⟩,λi=>?_⟩
 .obtain⟨E,z⟩:=aH u f;exact A g (ae z) (hn g f) ⟨_,_,z⟩
 .have:=l0 u g f;rcases d.new g i with c|c
  .exact hn g f c
  omega
 .have e:=h.b;exact⟨d.os.trans e.os,d.tape.trans e.tape,d.output.trans e.output,g8 e.size d.size,λk j=>(d.block k (by have:=e.size;omega) (λi=>by have:=(h.lt k i).2;omega) (λy=>by omega)).trans (e.block k j)⟩
 .rcases d.new k j with c|c
  .exact(h.lt k c).2
  have:=h.b.size;omega
 rcases d.new p i with c|c
 .exact h.box c
 have:=ae m;omega
theorem nD(n:Nat)(hn:3<=n)(g:Nat)(lb:Array gs)(eg:∀args w,(callFunc g args).run prog w=.ok (.enter g args) w)(T Sp:List PK->Prop)(G:List PK->PK->Prop)(hG:∀f x,G f x->f.length<100000000)(w:fx)
 (ao:jl gq (n-1) prog g lb (λx:PK=> #[pairV x]) T Sp G (λ_=>False) w):
 CallsIn gq n prog 163 #[e9 Y 0 0,.func (.func g) #[] lb] w λe w'=>∃(v:gs)(t:List PK),e=e7 v/\T t/\w'.ownsRow w.heap.size 134 4 v t.length (t.flatMap pkCells)/\Bw w w':=by
 have H:1<=n:=by omega
 refine callsIn_of_wp_marks func163 rfl trivial ?_ rfl;simp only[ntmps163,fy,fl,gi,gx,gt,fb,eQ,fz,fr,gb,gd];gi_wp2
 have bO:=Boxed.new w 131 (e9 Y 0 0);have I:Bw w (w.alloc (e5 #[e9 Y 0 0] 131)):=(fp _ w).alloc (ej _) _
 refine nK rfl H (gf:=g) (lb:=lb) rfl trivial eg ao (λk d=>d.elim) I (λ_=>rfl) (BO w w.heap.size) (λ_ _ _ _=>False) (BO.stable w _ _ I.size) (λ_ _ _ _ _ _ h _=>h) (λM s aC h k d=>(h.lt k d).1) (λ_ _ _ _ h=>h.elim)
  ⟨⟨_,bO,hI _ _ _ _,λg hg=>by cases hg⟩,I,λk d=>d.elim,λh=>h⟩
  (λx N=>{tmps:= #[e9 Y 0 0,.func (.func g) #[] lb,e6 (X ⟨w.heap.size,0,Y⟩),undef,e9 Y 0 0,e6 (X ⟨N,0,Y⟩),.func (.func g) #[] lb,pairV x,undef,undef,undef,undef,undef],defers:=[]}) (λx=>.cells (pkCells x).toArray 134) ?assign ?body ?done ?stop
 case assign=>
  intro l x W K j;obtain⟨⟨z,A⟩,C,E⟩:=x;unfold pairV pkCells at*;dsimp only at*;gi_wp2
  exact j
 case body=>
  rintro l M f x W N h a2 aS L;have a2:=hG _ _ a2;obtain⟨v,r,p,a4⟩:=h.o;have hc:=r.cell;obtain⟨i0,hi,av,ax,ay⟩:=info_parts C8;have i:=Z h.b;have u:=Z p;have HV:=Z r;have R:=Z a4;have O:=Z h;clear h p r a4;obtain⟨⟨z,A⟩,C,E⟩:=x;unfold pairV at*;unfold pkCells at L;dsimp only at L ⊢;have a8:Hid ((f++[((z,A),C,E)]).flatMap pkCells=f.flatMap pkCells++[J U z,J U A,J U C,J U E]):=by unfold Hid;simp[pkCells]
  obtain⟨n0,n1,n2,n3⟩:=nB L;generalize hxs:f.flatMap pkCells=xs0 at*;clear hxs;gi_wp2_with (gi_at_builtin;refine wpListIn_append_own_at _ rfl _ _ 131 rfl w.heap.size 134 i0 (.agg #[J U 0,J U 0,J U 0,J U 0]) 4 32 underlying131 hi av ax ay rfl (by decide) _ _ _ rfl (u.o.alloc _) ⟨W.heap.size,0,Y⟩ 1 1 [J U z,J U A,J U C,J U E] rfl rfl (nA _ _ _ _ _ _) (by simp[Value.oneCell']) (by unfold maxLen;omega) (by omega) (by have:=i.o.size;simp;omega) ?_;intro v' w1 a5 a1 _ a3;obtain⟨g',a9,rfl⟩:=ownsRow_succ a5;obtain⟨a6,au,al,ac,V⟩:=HV.o.appended (by decide) u.o i.o.size (ej _) a5 a1;have aT:=a6.cell;have b0:=a6.frozen;have a7:=Z a3;clear a3)
  have b1:=i.size;have y:=O.lt;have a0:=O.box;have ad:∀k,M k->(w1.setCell ⟨w.heap.size,0,Y⟩ (e9 (X ⟨g',0,Y⟩) (f.length+1) a9)).heap[k]?=W.heap[k]?:=λk d=>by have H:=(y k d).1;rw[g6 _ _ _ _ (λ(e:k=w.heap.size)=>a0 (e▸d)),a1.block k (by simp;omega) (λe=>R.o k e.symm d),gp _ _ _ H]
  refine⟨ac,ad,⟨⟨_,au,?_,λq m hm=>?_⟩,i.trans V,λk d=>⟨?_,(y k d).2⟩,a0⟩⟩
  .rw[ft,a8.o];exact al
  .rcases a7.o with e|e
   .exact R q (e▸m) hm
   rw[e]at m;injection m with m
   have:=(y q hm).1;simp at m;omega
  exact Nat.lt_of_lt_of_le (y k d).1 V.size
 case done=>
  rintro D M t W hD hS h j;obtain⟨v,r,p,_⟩:=h.o;have hc:=r.cell;have u:=Z p;have i:=Z h.b;clear h p;gi_wp2
  refine⟨by simp,.inl ⟨_,_,rfl,run_takeDeferred j,?_⟩⟩;exact⟨_,results_tmp rfl _ _ _,v,t,rfl,hS,ownsRow_putObj u.o _ j rfl,i.o.trans (belowK_b (w:=w) (ej _) W D _ _ (by simp at hD;omega) j rfl rfl)⟩
 rintro D c M f W _ _ h _;exact h.elim
theorem sE(n:Nat)(hn:4<=n)(g:Nat)(lb:Array gs)(h:∀args w,(callFunc g args).run prog w=.ok (.enter g args) w)(c d:List PK->Prop)(G:List PK->PK->Prop)(i:∀f x,G f x->f.length<100000000)(w:fx)
 (m:jl gq (n-1-1) prog g lb (λx:PK=> #[pairV x]) c d G (λ_=>False) w):
 ht prog 119 #[.func (.func g) #[] lb] w λe w'=>∃(v:gs)(b:List PK),e=e7 v/\c b/\w'.ownsRow w.heap.size 134 4 v b.length (b.flatMap pkCells)/\Bw w w':=by
 have p:1<=n:=by omega
 refine(callsIn_wide (n:=n)).1 ?_;refine g7 func119 rfl trivial ?_ rfl;simp only[ntmps119,fy,fl,gi,gx,gt,fb,eQ,fz,fr,gb,gd];gi_wp2_with (refine⟨trivial,?_⟩;gi_at_call 163;refine(nD (n-1) (by omega) g lb h c d G i _ m).mono ?_;rintro e w'⟨v,b,rfl,j,l,k⟩)
 go_ret;exact⟨v,b,rfl,j,l,k⟩
end
section
open Go.RowKit Go.Maps Go.Shelf Go.Lib Go.Sort
section
variable {α:Type} [Inhabited α]
theorem mF(enc:α->List gs)(k:Nat)(m:0<k)(d:∀x,(enc x).length=k)(b:List α):flatK enc k b.toArray=(b.flatMap enc).toArray:=by
 have p:(b.flatMap enc).length=b.length*k:=by
  induction b with
  |nil=>simp
  |cons a l ih=>rw[List.flatMap_cons,ft,d,ih,fl,Nat.add_mul];omega
 apply Array.ext
 .simp[p]
 intro t f v;have q:t<b.toArray.size*k:=by simpa using f
 have r:t<b.length*k:=by simpa using q
 have g:=get_flatK enc k b.toArray t q;rw[getElem!_pos (flatK enc k b.toArray) t f]at g;rw[g];have h:t/k<b.length:=(Nat.div_lt_iff_lt_mul m).2 r;have i:t%k<k:=Nat.mod_lt _ m;have e:=cW enc k d b (t/k) h (t%k) i;rw[Nat.div_add_mod' t k]at e;have s:b.toArray[t/k]! =b[t/k]:=by rw[getElem!_pos b.toArray (t/k) (by simpa using h)];simp
 rw[s];have j:t%k<(enc b[t/k]).length:=by rw[d];exact i
 rw[getElem!_pos (enc b[t/k]) (t%k) j];have c:(b.flatMap enc)[t]?=X ((enc b[t/k])[t%k]):=by rw[e];exact g9 j
 have u:t<(b.flatMap enc).length:=by rw[p];exact r
 rw[g9 u]at c;injection c with c
 simpa using c.symm
theorem cY{lo e k g c n:Nat}:∀(b:List gs)(s:Nat)(w:fx)(xs:List gs),w.ownsRow lo e k (e9 (X ⟨g,0,Y⟩) n c) n xs->s+b.length<=xs.length->
 (w.setCells g s b).ownsRow lo e k (e9 (X ⟨g,0,Y⟩) n c) n (xs.take s++b++xs.drop (s+b.length))/\az g w (w.setCells g s b)
 |[],s,w,xs,h,hs=>⟨by simpa[World.setCells]using h,az.refl _ _⟩
 |v::b,s,w,xs,h,hs=>by
  have m:s+1+b.length<=xs.length:=by simp at hs;omega
  have j:=(h.stored s v).1
  obtain⟨d,l⟩:=cY b (s+1) _ _ j (by simpa using m)
  refine⟨?_,((az.refl g w).setCell s v).trans l⟩
  have f:(xs.set s v).take (s+1)=xs.take s++[v]:=by
   rw[List.take_succ_eq_append_getElem (by simp;omega)]
   simp[List.take_set_of_le]
  have i:(xs.set s v).drop (s+1+b.length)=xs.drop (s+(b.length+1)):=by
   rw[List.drop_set_of_lt (by omega)]
   congr 1
   omega
  rw[f,i]at d
  simpa[World.setCells]using d
theorem im{lo e k g d:Nat}(enc:α->List gs)(l:0<k)(i:∀x,(enc x).length=k){w:fx}{b:List α}(h:w.ownsRow lo e k (e9 (X ⟨g,0,Y⟩) b.length d) b.length (b.flatMap enc)):HoldsK enc k w g 0 b.toArray:=by
 intro j c;rw[mF enc k l i]at c ⊢;have f:j<(b.flatMap enc).length:=by simpa using c
 rw[Nat.zero_add];refine⟨?_,h.frozenAt j⟩;rw[h.cellAt j (by have:=h.1;omega),getElem!_pos _ j c];rw[g9 f];simp
theorem jk{lo e k g j:Nat}(enc:α->List gs)(t:0<k)(m:∀x,(enc x).length=k){w:fx}{b ys:List α}(p:ys.length=b.length)(h:w.ownsRow lo e k (e9 (X ⟨g,0,Y⟩) b.length j) b.length (b.flatMap enc))(n:Nat)(c:Array Obj):
 (sortWorldK enc k w g 0 n ys.toArray c).ownsRow lo e k (e9 (X ⟨g,0,Y⟩) b.length j) b.length (ys.flatMap enc)/\(sortWorldK enc k w g 0 n ys.toArray c).os=w.os/\(sortWorldK enc k w g 0 n ys.toArray c).tape=w.tape/\(sortWorldK enc k w g 0 n ys.toArray c).output=w.output/\
  w.heap.size<=(sortWorldK enc k w g 0 n ys.toArray c).heap.size/\∀q,q<w.heap.size->q≠g->(sortWorldK enc k w g 0 n ys.toArray c).heap[q]?=w.heap[q]?:=by
 have A:=im enc t m h;have i:∀zs:List α,(zs.flatMap enc).length=zs.length*k:=λzs=>by
  induction zs with
  |nil=>simp
  |cons a l ih=>rw[List.flatMap_cons,ft,m,ih,fl,Nat.add_mul];omega
 have v:sortWorldK enc k w g 0 n ys.toArray c=Sort.grow ((w.drewN n).setCells g 0 (ys.flatMap enc)) c:=by unfold sortWorldK putRowK;rw[mF enc k t m];have:=Lib.putRow_eq_setCells id w g 0 (flatK enc k b.toArray) (ys.flatMap enc) n A (by rw[i,p,size_flatK];simp);rw[this];simp
 have y:(w.drewN n).ownsRow lo e k (e9 (X ⟨g,0,Y⟩) b.length j) b.length (b.flatMap enc):=h;obtain⟨r,f⟩:=cY (ys.flatMap enc) 0 (w.drewN n) (b.flatMap enc) y (by rw[i,i,p];omega);have z:(ys.flatMap enc).length=(b.flatMap enc).length:=by rw[i,i,p]
 rw[List.take_zero,gb,Nat.zero_add,z,List.drop_length,List.append_nil]at r;rw[v];have u:((w.drewN n).setCells g 0 (ys.flatMap enc)).heap.size=w.heap.size:=f.size;have s:∀q,q<w.heap.size->(Sort.grow ((w.drewN n).setCells g 0 (ys.flatMap enc)) c).heap[q]?=((w.drewN n).setCells g 0 (ys.flatMap enc)).heap[q]?:=λq d=>by show(((w.drewN n).setCells g 0 (ys.flatMap enc)).heap++c)[q]?=_;rw[Array.getElem?_append_left (by rw[u];exact d)]
 have C:=(h.lt g (by simp[gP])).2;refine⟨ai r (λq d=>?_),f.os,f.tape,f.output,by rw[Sort.size_grow,u];omega,λq d D=>(s q d).trans (f.block q D)⟩;simp[gP]at d;subst d;exact s _ C
end
theorem o8{K:Type}{lt:K->K->Bool}(T:Tot lt):Sort.SWO lt:=by
 refine⟨T.irr,T.tr,λx y z d b=>?_⟩;cases h3:lt x z
 .rfl
 exfalso;by_cases e:y=x
 .subst e;rw[h3]at b;cases b
 rcases T.tot y x e with c|c
 .have:=T.tr _ _ _ c h3;rw[this]at b;cases b
 rw[c]at d;cases d
def cU{K:Type}(lt:K->K->Bool)(b:List K):List K:=b.mergeSort λx y=> !(lt y x)
theorem di{K:Type}(lt:K->K->Bool)(b:List K):(cU lt b).Perm b:=List.mergeSort_perm _ _
theorem fT{K:Type}{lt:K->K->Bool}(T:Tot lt)(d:List K):(cU lt d).Pairwise λa b=>(!(lt b a))=true:=by
 refine List.pairwise_mergeSort (le:=λx y=> !(lt y x)) (λa b c e f=>?_) (λa b=>?_) d
 .simp only[gn]at*;exact(o8 T).ntrans _ _ _ f e
 simp only[Bool.or_eq_true,gn];cases h:lt b a
 .exact .inl rfl
 exact .inr (T.asym h)
theorem co{K:Type}{lt:K->K->Bool}(T:Tot lt){c ys:List K}(g:c.Perm ys)(i:ys.Pairwise λa b=>lt a b=true):cU lt c=ys:=by
 refine((di lt c).trans g).eq_of_pairwise (λa b _ _ d f=>?_) (fT T c) (i.imp λ{a b}h=>by simp[T.asym h]);simp only[gn]at d f;by_cases e:a=b
 .exact e
 rcases T.tot a b e with h|h
 .rw[f]at h;cases h
 rw[d]at h;cases h
theorem ri{K:Type}{lt:K->K->Bool}(T:Tot lt){c ys:List K}(g:c.Perm ys):cU lt c=cU lt ys:=by
 refine((di lt c).trans (g.trans (di lt ys).symm)).eq_of_pairwise (λa b _ _ d f=>?_) (fT T c) (fT T ys);simp only[gn]at d f;by_cases e:a=b
 .exact e
 rcases T.tot a b e with h|h
 .rw[f]at h;cases h
 rw[d]at h;cases h
theorem io:ltOf bG=ltRK:=by
 funext a b
 unfold ltOf;rw[Bool.eq_iff_iff,decide_eq_true_eq];exact eL a b
theorem pT:ltOf oJ=ltPK:=by
 funext a b
 unfold ltOf;rw[Bool.eq_iff_iff,decide_eq_true_eq];exact xx a b
theorem rd(lo:Nat)(w:fx)(v:gs)(b:List RK)(h:w.ownsRow lo 36 2 v b.length (b.flatMap rkCells))(hn:b.length<=1000000):
 ht prog 80 #[v,.func (.func 49) #[] #[]] w λe w'=>e=e7 (.tuple #[])/\w'.ownsRow lo 36 2 v b.length ((cU ltRK b).flatMap rkCells)/\w'.os=w.os/\w'.tape=w.tape/\w'.output=w.output/\w.heap.size<=w'.heap.size/\∀q,q<w.heap.size->v.ownBlock≠X q->w'.heap[q]?=w.heap[q]?:=by
 rcases h.2 with⟨rfl,z⟩|⟨g,u,H,rfl,_⟩
 .have G:b=[]:=hr z;subst G;refine(AnyF.slices_SortFunc_none vf Y 0 (.func (.func 49) #[] #[]) w).mono ?_;rintro e w'⟨rfl,rfl⟩;exact⟨rfl,by simpa[cU]using h,rfl,rfl,rfl,ej _,λ_ _ _=>rfl⟩
 have C:=(h.lt g (by simp[gP])).2;have A:=im rkCells (by decide) (λ_=>rfl) h;have:=AnyQ.slices_SortFunc_total vf 2 Tryz.isAgg36 sizeOf36 rkCells (λ_=>rfl) (λx v i=>by
  simp only[rkCells,List.mem_cons,List.not_mem_nil,or_false]at i;rcases i with rfl|rfl<;>rfl) bG (by rw[io];exact o8 aW) 49 #[] g 0 u b.toArray w (enters_of func49 (by kernel_rfl) rfl)
  (λm j I L x y=>(eV x y _).mono λe w' f=>⟨f.1,f.2⟩) A C (by simp;omega) (λx y c d=>by
   rw[io]at c d;by_cases e:x=y
   .exact e
   rcases aW.tot x y e with h|h
   .rw[c]at h;cases h
   rw[d]at h;cases h)
 refine(this).mono ?_;rintro e w'⟨rfl,n,j,rfl⟩;rw[io];obtain⟨k,l,p,r,s,t⟩:=jk (ys:=cU ltRK b) rkCells (by decide) (λ_=>rfl) (di ltRK b).length_eq h n j;exact⟨rfl,k,l,p,r,s,λq E D=>t q E (λe=>D (by rw[e];simp[gP]))⟩
theorem jX(n:Nat)(hn:4<=n)(g:Nat)(lb:Array gs)(H:∀args w,(callFunc g args).run prog w=.ok (.enter g args) w)(c:List RK)(M:c.length<=1000000)(E:List RK->Prop)(G:List RK->RK->Prop)(I:∀u x,G u x->u.length<100000000)(w:fx)
 (t:jl gq (n-1-1) prog g lb (λx:RK=> #[recK x]) (λh=>h.Perm c) E G (λ_=>False) w):
 ht prog 47 #[.func (.func g) #[] lb,.func (.func 49) #[] #[]] w λe w'=>∃v,e=e7 v/\w'.ownsRow w.heap.size 36 2 v c.length ((cU ltRK c).flatMap rkCells)/\Bw w w':=by
 have z:=Z (uC n hn g lb H _ _ _ I _ t);clear t;go_enter func47,ntmps47;go_wp2_with (go_at_call 88;(refine gQ z.o ?_;rintro e w1⟨v,h,rfl,f,d,s⟩;have D:=Z (rd w.heap.size w1 v h d (by rw[f.length_eq];exact M));have i:=Z f;have b:=Z s;have C:=Z d;clear f d s))
 go_at_call 80;refine D.mono ?_;rintro e N⟨rfl,j,l,m,p,q,r⟩;have A:=Z j;have y:Hid (Bw w N):=⟨l.trans b.o.os,m.trans b.o.tape,p.trans b.o.output,g8 b.o.size q,λk L=>(r k (by have:=b.o.size;omega) (λe=>by have:=(C.o.lt k e).1;omega)).trans (b.o.block k L)⟩;clear j l m p q r;go_wp2;go_ret;refine⟨v,rfl,?_,y.o⟩;have:=A.o;rw[i.o.length_eq,ri aW i.o]at this;exact this
theorem we(lo:Nat)(w:fx)(v:gs)(b:List PK)(h:w.ownsRow lo 134 4 v b.length (b.flatMap pkCells))(hn:b.length<=1000000):
 ht prog 120 #[v,.func (.func 67) #[] #[]] w λe w'=>e=e7 (.tuple #[])/\w'.ownsRow lo 134 4 v b.length ((cU ltPK b).flatMap pkCells)/\w'.os=w.os/\w'.tape=w.tape/\w'.output=w.output/\w.heap.size<=w'.heap.size/\∀q,q<w.heap.size->v.ownBlock≠X q->w'.heap[q]?=w.heap[q]?:=by
 rcases h.2 with⟨rfl,z⟩|⟨g,u,H,rfl,_⟩
 .have G:b=[]:=hr z;subst G;refine(AnyF.slices_SortFunc_none rh Y 0 (.func (.func 67) #[] #[]) w).mono ?_;rintro e w'⟨rfl,rfl⟩;exact⟨rfl,by simpa[cU]using h,rfl,rfl,rfl,ej _,λ_ _ _=>rfl⟩
 have C:=(h.lt g (by simp[gP])).2;have A:=im pkCells (by decide) (λ_=>rfl) h;have:=AnyQ.slices_SortFunc_total rh 4 Tryz.isAgg134 sizeOf134 pkCells (λ_=>rfl) (λx v i=>by
  simp only[pkCells,List.mem_cons,List.not_mem_nil,or_false]at i;rcases i with rfl|rfl|rfl|rfl<;>rfl) oJ (by rw[pT];exact o8 dG) 67 #[] g 0 u b.toArray w (enters_of func67 (by kernel_rfl) rfl)
  (λm j I L x y=>(lj x y _).mono λe w' f=>⟨f.1,f.2⟩) A C (by simp;omega) (λx y c d=>by
   rw[pT]at c d;by_cases e:x=y
   .exact e
   rcases dG.tot x y e with h|h
   .rw[c]at h;cases h
   rw[d]at h;cases h)
 refine(this).mono ?_;rintro e w'⟨rfl,n,j,rfl⟩;rw[pT];obtain⟨k,l,p,r,s,t⟩:=jk (ys:=cU ltPK b) pkCells (by decide) (λ_=>rfl) (di ltPK b).length_eq h n j;exact⟨rfl,k,l,p,r,s,λq E D=>t q E (λe=>D (by rw[e];simp[gP]))⟩
theorem wg(n:Nat)(hn:4<=n)(g:Nat)(lb:Array gs)(H:∀args w,(callFunc g args).run prog w=.ok (.enter g args) w)(c:List PK)(M:c.length<=1000000)(E:List PK->Prop)(G:List PK->PK->Prop)(I:∀u x,G u x->u.length<100000000)(w:fx)
 (t:jl gq (n-1-1) prog g lb (λx:PK=> #[pairV x]) (λh=>h.Perm c) E G (λ_=>False) w):
 ht prog 65 #[.func (.func g) #[] lb,.func (.func 67) #[] #[]] w λe w'=>∃v,e=e7 v/\w'.ownsRow w.heap.size 134 4 v c.length ((cU ltPK c).flatMap pkCells)/\Bw w w':=by
 have z:=Z (sE n hn g lb H _ _ _ I _ t);clear t;go_enter func65,ntmps65;go_wp2_with (go_at_call 119;(refine gQ z.o ?_;rintro e w1⟨v,h,rfl,f,d,s⟩;have D:=Z (we w.heap.size w1 v h d (by rw[f.length_eq];exact M));have i:=Z f;have b:=Z s;have C:=Z d;clear f d s))
 go_at_call 120;refine D.mono ?_;rintro e N⟨rfl,j,l,m,p,q,r⟩;have A:=Z j;have y:Hid (Bw w N):=⟨l.trans b.o.os,m.trans b.o.tape,p.trans b.o.output,g8 b.o.size q,λk L=>(r k (by have:=b.o.size;omega) (λe=>by have:=(C.o.lt k e).1;omega)).trans (b.o.block k L)⟩;clear j l m p q r;go_wp2;go_ret;refine⟨v,rfl,?_,y.o⟩;have:=A.o;rw[i.o.length_eq,ri dG i.o]at this;exact this
end
end Go.Proofs.YtjcimanddakkaaaGreatDoor
