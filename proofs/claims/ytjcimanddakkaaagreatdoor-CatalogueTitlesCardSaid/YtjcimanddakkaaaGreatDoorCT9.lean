/- Lemmas. -/
import Derived.Test.YtjcimanddakkaaaGreatDoorCT7
set_option maxRecDepth 100000
set_option maxHeartbeats 8000000
namespace Go.Proofs.YtjcimanddakkaaaGreatDoor
open Go.Value renaming bool→e0,pointer→e3,int→J,map→e5,slice→e6
open _root_.Option renaming some→X,none→Y
open Go.Obj renaming cells→e2
open Go.Ending renaming returned→e4
open Go.IntKind renaming i64→U
open Go.Lib renaming hid→Z
open Tryz
open _root_.Nat renaming le_refl→eb,reduceSub→gi,reduceAdd→gn,le_trans→gP,add_assoc→hv
open Go.World renaming putObj_heap_other→ej,alloc_heap_new→em,size_alloc→g8,putObj_heap_same→ht,ownsRow_nil→hC
open Go.RowKit.Below renaming refl→er,heap_alloc→gb,heap_setCell→gz
open _root_.Array renaming replicate_zero→ex,replicate_succ→eQ,getElem?_eq_none→hu
open _root_.List renaming length_cons→e7,append_toArray→e8,length_map→e9,length_append→fl,size_toArray→fp,push_toArray→fr,nil_append→fs,cons_append→ft,length_nil→fx,take_succ_eq_append_getElem→gs,length_pos_of_mem→gt,getElem?_eq_getElem→gQ,append_assoc→g6,map_cons→g9,eq_nil_of_length_eq_zero→he,take_of_length_le→hw,mem_cons_self→hH
open Go renaming World→fb,Value→fz,callsIn_of_wp→gO,Calls→hd,results_none→hq,bodyPost_ret→hr,KeepsOthers→hz
open _root_.Bool renaming not_eq_true'→fy
open Go.Fence renaming wide→gd
open Go.ChangeMaps renaming setBlock→gp
open Go.KeepsOthers renaming alloc→gq
open Go.Value renaming ownBlock→gx
open Go.Calls renaming mono→gy
open Go.Obj renaming cells→g7
open Go.Result renaming andThen→hj
open Go.WideAt renaming sameKey_self→hA
section
open Go.RowKit Go.Maps Go.Shelf
theorem q36(b c d e:Int)(w:fb):(binOp .eql 36 (.agg #[b,c]) (.agg #[d,e])).run prog w=.ok (e0 (decide ((b,c)=(d,e)))) w:=by
 by_cases h1:b=d
 .by_cases h2:c=e
  .subst h1;subst h2;go_simp
  subst h1;go_simp
 go_simp
theorem Dx(b:Int)(d:Bool)(c:Int)(e:Bool)(w:fb):(binOp .eql 139 (.agg #[b,e0 d]) (.agg #[c,e0 e])).run prog w=.ok (e0 (decide (b=c)&&decide (d=e))) w:=by
 by_cases h1:b=c
 .subst h1;cases d<;>cases e<;>go_simp
 go_simp
theorem du{w:fb}{b t:Nat}{x y:fz}(h:w.heap[b]?=X (e2 #[x,y] t (0,0))):w.cell? b=X x/\w.cell? ⟨b,1,Y⟩=X y:=⟨(ab h 0).trans rfl,(ab h 1).trans rfl⟩
theorem nL{w:fb}{b t:Nat}{x y z u:fz}(h:w.heap[b]?=X (e2 #[x,y,z,u] t (0,0))):w.cell? b=X x/\w.cell? ⟨b,1,Y⟩=X y/\w.cell? ⟨b,2,Y⟩=X z/\w.cell? ⟨b,3,Y⟩=X u:=⟨(ab h 0).trans rfl,(ab h 1).trans rfl,(ab h 2).trans rfl,(ab h 3).trans rfl⟩
def eD(d:aB)(p:PK)(n:Int)(j:Bool):Int:=bh (findK d.ps p).isSome (decide (((findK d.ps p).getD (0,false)).1=n)&&decide (((findK d.ps p).getD (0,false)).2=j)) ((findK d.ps p).getD (0,false)).1 n d.ps
theorem kF(d:aB)(a b:RK)(n:Int)(j:Bool)(c:a≠b):decideC d a b n j=if eD d (pairK a b) n j=0 then({d with ps:=insL ltPK d.ps (pairK a b) (n,j)},0)else(d,eD d (pairK a b) n j):=by
 unfold decideC eD;rw[if_neg c];cases findK d.ps (pairK a b)with
 |none=>simp only[Option.isSome_none,Option.getD_none];rw[mz (decide (0=n)&&decide (false=j))]
 |some m=>rfl
theorem pV{a b:RK}(c:rkOk a)(d:rkOk b):pkOk (pairK a b):=by
 unfold pairK;split
 .exact⟨d,c⟩
 exact⟨c,d⟩
theorem A6{a b:RK}(h:a≠b):ltRK (pairK a b).1 (pairK a b).2=true:=by
 unfold pairK;split
 .assumption
 rename_i d;rcases aY.tot a b h with c|c
 .exact c
 exact absurd c d
theorem bp.decide{d:aB}(h:bp d){a b:RK}{n:Int}{j:Bool}(e:a≠b)(c:rkOk a)(f:rkOk b)(hn:i64B n)(i:eD d (pairK a b) n j=0):bp {d with ps:=insL ltPK d.ps (pairK a b) (n,j)}:=by
 refine⟨⟨h.ok.vs,h.ok.ds,ff dQ h.ok.ps _ _,cZ dQ h.ok.ps h.ok.apart (A6 e)⟩,h.vlen,h.dlen,?_,h.right,h.vnum,h.dnum,cZ dQ h.ok.ps h.pnum hn,h.vkey,h.dkey,cZ dQ h.ok.ps h.pkey (pV c f)⟩;exact qp dQ h.ok.ps _ _ h.plen λg=>gk i g
theorem ed.put3{F:Nat->Prop}{w j:fb}{c a b e:Nat}{G:fz}{d:aB}{ps:List (PK×(Int×Bool))}(h:ed F w c (X a) (X b) (X e) G d)(r:aF e w j)(i:an pairB j e (ps.map λp=>(p.1,gJ p.2)))(D:bp {d with ps:=ps}):
 ed F (j.setCell ⟨c,3,Y⟩ (e3 Y)) c (X a) (X b) (X e) (e3 Y) {d with ps:=ps}:=by
 have A:c≠b:=λe=>(ak (show an recB w b _ from h.ds) h.blk) e.symm;have z:c≠a:=λe=>by obtain⟨ps,_,g,_⟩:=h.vs;exact(ak (show an recB w a _ from g) h.blk) e.symm
 have v:c≠e:=λs=>(ak (show an pairB w e _ from h.ps) h.blk) s.symm;rcases h.one with⟨f,_⟩|⟨H,I,s,f,g,l,y,t,u⟩
 .cases f
 injection f with f;injection g with g;injection l with l
 subst f;subst g;subst l;have q:∀k,k≠c->k≠e->(j.setCell ⟨c,3,Y⟩ (e3 Y)).heap[k]?=w.heap[k]?:=λk f g=>(gz _ _ _ _ f).trans (r.block k g);have E:(j.setCell ⟨c,3,Y⟩ (e3 Y)).heap.size=w:=by rw[World.size_setCell,r.size]
 refine⟨?_,h.vs.step (λm i=>by injection i with i;subst i;exact q _ (Ne.symm z) t) (λk x=>q k x.2.1 (λe=>x.2.2.2.2 (by rw[e]))) (by omega),?_,?_,.inl rfl,h.fc,h.f1,h.f2,h.f3,.inr ⟨a,b,e,rfl,rfl,rfl,y,t,u⟩,λk C=>by rw[E];exact h.lt k C,D⟩
 .exact aA ((r.block c v).trans h.blk) 3 (e3 Y)
 .exact an.block (show an recB w b _ from h.ds) (q b (Ne.symm A) u)
 exact i.block (gz _ _ _ _ (Ne.symm v))
theorem oQ(F:Nat->Prop)(w:fb)(c:Nat)(d:aB)(h:bG F w c d)(a b:RK)(n:Int)(j:Bool)(ha:rkOk a)(D:rkOk b)(hn:i64B n):
 hd prog 76 #[.pointer c,recK a,recK b,gJ (n,j)] w λe w'=>e=e4 (J U (decideC d a b n j).2)/\∃I,bG I w' c (decideC d a b n j).1/\ai F w I w':=by
 by_cases hab:a=b
 .have HE:Hid (decideC d a b n j=(d,1)):=by unfold Hid decideC;rw[if_pos hab]
  subst hab;obtain⟨g,i⟩:=a;unfold recK gJ;dsimp only;have HB:Hid (∀o o' cy,Bw w (((w.alloc o).alloc o').alloc cy)):=λo o' cy=>(((er _ w).alloc (eb _) o).alloc (by simp) o').alloc (by simp;omega) cy;have HH:=Z h;clear h;go_enter func76,ntmps76;go_wp2;go_ret;rw[HE.o];exact⟨rfl,F,HH.below (HB _ _ _),ai.of_below (HB _ _ _)⟩
 have b4:=Z (kF d a b n j hab);have c5:Hid (eD d (pairK a b) n j=0->bp {d with ps:=insL ltPK d.ps (pairK a b) (n,j)}):=by obtain⟨_,_,_,_,h⟩:=h;exact h.ok.decide hab ha D hn
 have b8:pkOk (pairK a b):=pV ha D;have b6:Hid (pairK a b=if ltRK b a then(b,a)else(a,b)):=rfl;obtain⟨m1,m2,C,kn,h⟩:=h;obtain⟨g,i⟩:=a;obtain⟨l,q⟩:=b;have c9:(bI (l,q) (g,i)<0)↔ltRK (l,q) (g,i)=true:=eZ _ _;have ds:decide ((g,i)=(l,q))=false:=decide_eq_false hab;have HC:Hid (∀W,hd prog 49 #[.agg #[l,q],.agg #[g,i]] W λe w'=>e=e4 (bI (l,q) (g,i))/\bF W w'):=λW=>fj (l,q) (g,i) W;unfold recK gJ;dsimp only;have dy:=λw=>q36 g i l q w;rw[ds]at dy;have dz:=Dx;obtain⟨f,bt⟩:=Qe ((((w.alloc (e2 #[g,i] 36)).alloc (e2 #[l,q] 36)).alloc (e2 #[n,e0 j] 139)));have az:Bw w f:=by rw[<- bt];exact(((er _ w).alloc (eb _) _).alloc (by simp) _).alloc (by simp;omega) _
 have d4:f.heap.size=w+3:=by rw[<- bt];simp
 have c6:f.heap[w.heap.size]?=X (e2 #[g,i] 36 (0,0)):=by rw[<- bt,gb _ _ _ (by simp;omega),gb _ _ _ (by simp)];exact em w _
 have c7:f.heap[w.heap.size+1]?=X (e2 #[l,q] 36 (0,0)):=by rw[<- bt,gb _ _ _ (by simp)];have:=em (w.alloc (e2 #[g,i] 36)) (e2 #[l,q] 36);rwa[g8]at this
 have d0:f.heap[w.heap.size+2]?=X (e2 #[n,e0 j] 139 (0,0)):=by rw[<- bt];have:=em ((w.alloc (e2 #[g,i] 36)).alloc (e2 #[l,q] 36)) (e2 #[n,e0 j] 139);rwa[g8,g8]at this
 have x0:f.cell? ⟨w,0,Y⟩=X (J U g):=(ab c6 0).trans rfl;have x1:f.cell? ⟨w,1,Y⟩=X (J U i):=(ab c6 1).trans rfl;have y0:f.cell? ⟨w.heap.size+1,0,Y⟩=X (J U l):=(ab c7 0).trans rfl;have y1:f.cell? ⟨w.heap.size+1,1,Y⟩=X (J U q):=(ab c7 1).trans rfl;have HH:=Z (h.below az);have d6:=Z c6;have d7:=Z c7;have d8:=Z d0;have cz:=Z az;have b7:=Z d4;have bb:=Z h.lt;obtain⟨Wp,cj⟩:=Qe (f.alloc (e2 #[g,i,l,q] 134));have d3:Bw f Wp:=by rw[<- cj];exact(er _ f).alloc (eb _) _
 have d5:Wp.heap.size=f+1:=by rw[<- cj];simp
 have d1:Wp.heap[f.heap.size]?=X (e2 #[g,i,l,q] 134 (0,0)):=by rw[<- cj];exact em f _
 have d9:=Z d1;have da:=Z d3;have dd:=Z d5
 have b5:Hid (∀H,bF Wp H->H.heap[f.heap.size]?=X (e2 #[g,i,l,q] 134 (0,0))/\H.heap[w.heap.size]?=X (e2 #[g,i] 36 (0,0))/\H.heap[w.heap.size+1]?=X (e2 #[l,q] 36 (0,0))/\
  H.heap[w.heap.size+2]?=X (e2 #[n,e0 j] 139 (0,0))/\ed F H c m1 m2 C kn d/\Bw w H):=λH hg=>by
  have D:=hg.below
  have R:=b7.o
  have T:=dd.o
  have a9:Bw f H:=btr da.o D (by omega)
  exact⟨(D.block _ (by omega)).trans d9.o,(a9.block _ (by omega)).trans d6.o,(a9.block _ (by omega)).trans d7.o,(a9.block _ (by omega)).trans d8.o,HH.o.below a9,btr cz.o a9 cz.o.size⟩
 clear h az c6 c7 d0 d4 hab d3 d5 d1;by_cases hlt:ltRK (l,q) (g,i)=true
 .have dq:bI (l,q) (g,i)<0:=c9.2 hlt;rw[if_pos hlt]at b6;rw[b6.o]at b8 b4 c5;generalize bI (l,q) (g,i)=cm at*;clear hlt c9 b6;obtain⟨v0,v1⟩:=du (b5 Wp (bF.refl _)).2.1;obtain⟨v2,v3⟩:=du (b5 Wp (bF.refl _)).2.2.1;go_enter func76,ntmps76;go_wp2_with (go_at_call 49;go_loud (((with_reducible refine gy (HC.o _) ?_);rintro e H⟨rfl,bA⟩;obtain⟨g0,g1,g2,g3,g4,g5⟩:=b5.o _ bA;obtain⟨z0,z1⟩:=du g1;obtain⟨z2,z3⟩:=du g2;obtain⟨p0,p1,p2,p3⟩:=nL g0;have f0:=ae g0 0;have f1:=ae g0 1;have f2:=ae g0 2;have f3:=ae g0 3;have G0:=Z g0;have G3:=Z g3;have G4:=Z g4;have G5:=Z g5;clear g0 g1 g2 g3 g4 g5 bA)))
  have a5:Hid ((((((H.setCell ⟨f,0,Y⟩ l).setCell ⟨f,1,Y⟩ q).setCell ⟨f,2,Y⟩ g).setCell ⟨f,3,Y⟩ i)).heap[f.heap.size]?=X (e2 #[l,q,g,i] 134 (0,0))):=aA (aA (aA (aA G0.o 0 l) 1 q) 2 g) 3 i;have au:Hid (aF f H ((((H.setCell ⟨f,0,Y⟩ l).setCell ⟨f,1,Y⟩ q).setCell ⟨f,2,Y⟩ g).setCell ⟨f,3,Y⟩ i)):=((((aF.refl _ H).setCell 0 _).setCell 1 _).setCell 2 _).setCell 3 _;generalize((((H.setCell ⟨f,0,Y⟩ l).setCell ⟨f,1,Y⟩ q).setCell ⟨f,2,Y⟩ g).setCell ⟨f,3,Y⟩ i)=s at*;have G:Hid (ed F s c m1 m2 C kn d):=G4.o.step (λk hf=>au.o.block k (λe=>by have:=bb.o k hf;have:=b7.o;omega)) (by rw[au.o.size];exact eb _);have ac:Hid (s.heap[w.heap.size+2]?=X (e2 #[n,e0 j] 139 (0,0))):=(au.o.block _ (by have:=b7.o;omega)).trans G3.o;have aa:Hid (Bw w s):=G5.o.trans (au.o.below (by have:=b7.o;omega));clear z0 z1 z2 z3 p0 p1 p2 p3 f0 f1 f2 f3 x0 x1 y0 y1 v0 v1 v2 v3;have aT:=λty=>cI.len (G.ps) underlying115 ty;rw[e9]at aT;have ao:Hid (∀W,(∀m,C=X m->W.heap[m]?=s.heap[m]?)->(Instr.lookup 115 (.map C) (.agg #[l,q,g,i]) true).run prog W=.ok (.tuple #[.agg #[J U ((findK d.ps ((l,q),g,i)).getD (0,false)).1,e0 ((findK d.ps ((l,q),g,i)).getD (0,false)).2],e0 (findK d.ps ((l,q),g,i)).isSome]) W):=λW hW=>by have:=cI.look_ok (w:=W) (G.ps.block hW) underlying115 iq ((l,q),g,i) b8;rw[fN d.ps gJ]at this;refine Eq.trans this ?_;cases findK d.ps ((l,q),g,i)<;>rfl
  have HX:Hid (eD d ((l,q),g,i) n j=bh (findK d.ps ((l,q),g,i)).isSome (decide (((findK d.ps ((l,q),g,i)).getD (0,false)).1=n)&&decide (((findK d.ps ((l,q),g,i)).getD (0,false)).2=j)) ((findK d.ps ((l,q),g,i)).getD (0,false)).1 n d.ps):=rfl;generalize(findK d.ps ((l,q),g,i)).isSome=there at*;generalize(findK d.ps ((l,q),g,i)).getD (0,false)=ov at*;obtain⟨o1,o2⟩:=ov;dsimp only at ao HX;have dc:Hid (d.ps.length=d.ps):=rfl;generalize hmany:d.ps.length=many at aT HX;have HN:Hid (∀W,hd prog 56 #[e0 there,e0 (decide (o1=n)&&decide (o2=j)),o1,n,many] W λe w'=>e=e4 (eD d ((l,q),g,i) n j)/\W=w'):=λW=>by rw[HX.o];exact gZ _ _ _ _ _ W
  have ca:=Z hmany;clear hmany;obtain⟨p0,p1,p2,p3⟩:=nL a5.o
  have y:s.drew.cell? ⟨c,2,Y⟩=X (.map C)/\s.drew.cell? ⟨f,0,Y⟩=X (J U l)/\s.drew.cell? ⟨f,1,Y⟩=X (J U q)/\s.drew.cell? ⟨f,2,Y⟩=X (J U g)/\s.drew.cell? ⟨f,3,Y⟩=X (J U i)/\(∀m,C=X m->s.drew.heap[m]?=s.heap[m]?):=
   ⟨(ab G.blk 2).trans rfl,p0,p1,p2,p3,λ_ _=>rfl⟩
  clear p0 p1 p2 p3
  have ad:Hid (∀W,Bw s W->W.cell? ⟨c,2,Y⟩=X (.map C)/\W.cell? ⟨f,0,Y⟩=X (J U l)/\W.cell? ⟨f,1,Y⟩=X (J U q)/\W.cell? ⟨f,2,Y⟩=X (J U g)/\W.cell? ⟨f,3,Y⟩=X (J U i)/\(∀m,C=X m->W.heap[m]?=s.heap[m]?)):=λW D=>
   ⟨fV D _ _ y.1,fV D _ _ y.2.1,fV D _ _ y.2.2.1,fV D _ _ y.2.2.2.1,fV D _ _ y.2.2.2.2.1,λm hm=>D.block m (G.lt m (G.f3 m hm))⟩
  refine wT (λW=>W.cell? ⟨c,2,Y⟩=X (.map C)/\W.cell? ⟨f,0,Y⟩=X (J U l)/\W.cell? ⟨f,1,Y⟩=X (J U q)/\W.cell? ⟨f,2,Y⟩=X (J U g)/\W.cell? ⟨f,3,Y⟩=X (J U i)/\(∀m,C=X m->W.heap[m]?=s.heap[m]?)) 11 ?_;refine Qb [0,4,1,2,3] y (λw' h=>h) ?_;refine tk 5 ?_ rfl y ?_ ?_;rotate_left;intro w' h;obtain⟨V,R,T,h3,h4,M⟩:=h;have hl:=ao w' M;go_simp;rfl;try go_simp
  refine Qb [6,7,8] y (λw' h=>h) ?_;refine Dp 9 λK r=>?_;go_simp;have bw:∀o,Bw s (s.drew.alloc o):=λo=>(er _ s).drew.alloc (eb _) o;refine r _ _ (λ_=>ad _ (bw _)) ?_;clear r K;refine Dp 10 λK r=>?_;go_simp;have aC:∀o,Bw s (s.alloc o).drew:=λo=>((er _ s).alloc (eb _) o).drew;refine r _ _ (λ_=>ad _ (aC _)) ?_;clear r K;refine Dl 11 ?_;obtain⟨z,a8⟩:=Qe ((s.alloc (e2 #[o1,e0 o2] 139)).drew);have bl:z.heap[s.heap.size]?=X (e2 #[o1,e0 o2] 139 (0,0)):=by rw[<- a8];exact em s _
  have a3:Bw s z:=by rw[<- a8];exact aC _
  have a4:=Z (G.below a3);have d2:=(a3.block _ (af a5.o)).trans a5.o;have ax:=(a3.block _ (af ac.o)).trans ac.o;have b9:Hid (Bw w z):=btr aa.o a3 aa.size;have cp:=λty=>cI.len (w:=z.drew) (a4.ps.block (λ_ _=>rfl)) underlying115 ty;rw[e9,ca.o]at cp;rw[a8];clear aT y ad bw aC a8 a3 ao G ac aa a5 au;obtain⟨s0,s1⟩:=du bl;obtain⟨r0,r1⟩:=du ax;have dk:z.cell? ⟨c,2,Y⟩=X (.map C):=(ab a4.blk 2).trans rfl;have cP:=Z d2;have bc:=Z ax;clear bl ax d2;go_wp2_with fail;refine wT (λW=>W=z.drew) 14 ?_;refine Qb [0,1,2,4,6,8,3,5,7,9,10,11] rfl (λw' h=>h) ?_;refine Ds 12 rfl ?_;refine Dp 13 λK r=>?_;go_simp;go_at_call 56;refine(HN _).mono ?_;rintro e w9⟨rfl,rfl⟩;refine r _ _ (λ_=>rfl) ?_;clear r K;refine Dl 14 ?_;by_cases hx:eD d ((l,q),g,i) n j=0;rotate_left
  .have a6:=Z hx;have dx:((eD d ((l,q),g,i) n j)==0)=false:=by simpa using hx
   generalize eD d ((l,q),g,i) n j=x at*;go_wp2_with fail;go_ret;rw[b4.o,if_neg a6.o];exact⟨rfl,F,⟨_,_,_,_,a4.below (er _ z).drew⟩,ai.of_below b9.drew⟩
  have a6:=Z hx;rw[hx];go_wp2_with (go_at_call 57;(refine gy (im (a4.o.below (er _ z).drew)) ?_;rintro e A⟨rfl,I,ma,mb,u,N,y⟩))
  have cs:¬F f:=λhf=>by have:=bb.o _ hf;have:=b7.o;omega
  have cq:¬F (w.heap.size+2):=λhf=>by have:=bb.o _ hf;omega
  have ci:f<z.drew.heap.size:=af cP.o;have cg:w+2<z.drew.heap.size:=af bc.o;have cl:=(y.block _ ci cs).trans cP.o;have av:=(y.block _ cg cq).trans bc.o;have a0:an pairB A u _:=N.ps;obtain⟨st,bk,bd,c1,bv,bY,c4⟩:=an.entry (w:=A.drew) (an.drew a0) uz underlying115 iq ((l,q),g,i) b8 (by rw[e9];have:=N.ok.plen;unfold maxLen;omega);have aS:c≠u:=λe=>(ak a0 N.blk) e.symm;have ch:f≠u:=λe=>(ak a0 cl) e.symm;have cd:w+2≠u:=λe=>(ak a0 av) e.symm;have al:Hid (∀W,aF u A W->W.cell? ⟨c,2,Y⟩=X (e5 (X u))/\W.cell? ⟨f,0,Y⟩=X (J U l)/\W.cell? ⟨f,1,Y⟩=X (J U q)/\W.cell? ⟨f,2,Y⟩=X (J U g)/\W.cell? ⟨f,3,Y⟩=X (J U i)/\W.cell? ⟨w.heap.size+2,0,Y⟩=X (J U n)/\W.cell? ⟨w.heap.size+2,1,Y⟩=X (e0 j)):=λW ho=>by obtain⟨p0,p1,p2,p3⟩:=nL ((ho.block _ ch).trans cl);obtain⟨r0,r1⟩:=du ((ho.block _ cd).trans av);exact⟨(ab ((ho.block c aS).trans N.blk) 2).trans rfl,p0,p1,p2,p3,r0,r1⟩
  have b0:aF u A A.drew:=(aF.refl u A).drew;have bs:=al _ b0;have L:=Z N;have cc:=Z y;clear N y a0 cl av;go_wp2_with fail;refine wT (λW=>W.cell? ⟨c,2,Y⟩=X (e5 (X u))/\W.cell? ⟨f,0,Y⟩=X (J U l)/\W.cell? ⟨f,1,Y⟩=X (J U q)/\W.cell? ⟨f,2,Y⟩=X (J U g)/\W.cell? ⟨f,3,Y⟩=X (J U i)/\W.cell? ⟨w.heap.size+2,0,Y⟩=X (J U n)/\W.cell? ⟨w.heap.size+2,1,Y⟩=X (e0 j)) 12 ?_;refine Qb [0,4,5,6,1,2,3] bs (λw' h=>h) ?_;refine Dp 7 λK r=>?_;refine bH rfl c1 ?_;have b3:aF u A (gp A.drew u (.map bk bd)):=b0.trans bY;have ay:=al _ b3;generalize gp A.drew u (.map bk bd)=w4 at*;refine r _ _ (λ_=>ay) ?_;clear r K;go_simp;refine Qb [8] ay (λw' h=>h) ?_
  refine Dp 9 λK r=>?_;obtain⟨E,c2,bO,c0⟩:=c4 w4 (.agg #[n,e0 j]) bv;refine bj rfl c2 ?_;have O:aF u A E:=b3.trans c0;have a7:=al _ O;refine r _ _ (λ_=>a7) ?_;clear r K;go_simp;refine Ds 10 a7 ?_;refine Qb [11] a7 (λw' h=>h) ?_
  have bB:an pairB E u ((insL ltPK d.ps ((l,q),g,i) (n,j)).map λp=>(p.1,gJ p.2)):=bO.perm (jB dQ L.ok.ok.ps (λ_ v=>gJ v) ((l,q),g,i) (n,j));have hF:=L.put3 O bB (c5 a6.o);have c3:E.cell? ⟨c,3,Y⟩=X kn:=(O.cell (p:=⟨c,3,Y⟩) aS).trans ((ab L.blk 3).trans rfl);have f3:E.frozen? ⟨c,3,Y⟩=false:=(O.frozen (p:=⟨c,3,Y⟩) aS).trans (ae L.blk 3);have HF:=Z hF;have cb:=Z O;clear hF bs ay a7 bO bB c2 c0 bY c4 c1 bv O b0 b3;refine Dl 12 ?_;go_wp2_with fail;go_ret;rw[b4.o,if_pos a6.o];refine⟨rfl,I,⟨_,_,_,_,HF.o⟩,?_⟩;have cu:ai F w F z.drew:=ai.of_below b9.drew;have cv:ai I A I E:=ai.of_only cb.o (L.f3 u rfl);have cx:ai I E I (E.setCell ⟨c,3,Y⟩ (e3 Y)):=ai.of_only (aF.setCell (aF.refl c E) 3 _) L.fc;exact((cu.trans cc.o).trans cv).trans cx
 have dq:¬(bI (l,q) (g,i)<0):=λhh=>hlt (c9.1 hh);rw[if_neg hlt]at b6;rw[b6.o]at b8 b4 c5;generalize bI (l,q) (g,i)=cm at*;clear hlt c9 b6;obtain⟨v0,v1⟩:=du (b5 Wp (bF.refl _)).2.1;obtain⟨v2,v3⟩:=du (b5 Wp (bF.refl _)).2.2.1;go_enter func76,ntmps76;go_wp2_with (go_at_call 49;go_loud (((with_reducible refine gy (HC.o _) ?_);rintro e s⟨rfl,bA⟩;obtain⟨g0,g1,g2,g3,g4,g5⟩:=b5.o _ bA;have a5:=Z g0;have ac:=Z g3;have G:=Z g4;have aa:=Z g5;have au:=Z g5;clear g0 g1 g2 g3 g4 g5 bA)))
 clear x0 x1 y0 y1 v0 v1 v2 v3;have aT:=λty=>cI.len (G.ps) underlying115 ty;rw[e9]at aT;have ao:Hid (∀W,(∀m,C=X m->W.heap[m]?=s.heap[m]?)->(Instr.lookup 115 (.map C) (.agg #[g,i,l,q]) true).run prog W=.ok (.tuple #[.agg #[J U ((findK d.ps ((g,i),l,q)).getD (0,false)).1,e0 ((findK d.ps ((g,i),l,q)).getD (0,false)).2],e0 (findK d.ps ((g,i),l,q)).isSome]) W):=λW hW=>by have:=cI.look_ok (w:=W) (G.ps.block hW) underlying115 iq ((g,i),l,q) b8;rw[fN d.ps gJ]at this;refine Eq.trans this ?_;cases findK d.ps ((g,i),l,q)<;>rfl
 have HX:Hid (eD d ((g,i),l,q) n j=bh (findK d.ps ((g,i),l,q)).isSome (decide (((findK d.ps ((g,i),l,q)).getD (0,false)).1=n)&&decide (((findK d.ps ((g,i),l,q)).getD (0,false)).2=j)) ((findK d.ps ((g,i),l,q)).getD (0,false)).1 n d.ps):=rfl;generalize(findK d.ps ((g,i),l,q)).isSome=there at*;generalize(findK d.ps ((g,i),l,q)).getD (0,false)=ov at*;obtain⟨o1,o2⟩:=ov;dsimp only at ao HX;have dc:Hid (d.ps.length=d.ps):=rfl;generalize hmany:d.ps.length=many at aT HX;have HN:Hid (∀W,hd prog 56 #[e0 there,e0 (decide (o1=n)&&decide (o2=j)),o1,n,many] W λe w'=>e=e4 (eD d ((g,i),l,q) n j)/\W=w'):=λW=>by rw[HX.o];exact gZ _ _ _ _ _ W
 have ca:=Z hmany;clear hmany;obtain⟨p0,p1,p2,p3⟩:=nL a5.o
 have y:s.drew.cell? ⟨c,2,Y⟩=X (.map C)/\s.drew.cell? ⟨f,0,Y⟩=X (J U g)/\s.drew.cell? ⟨f,1,Y⟩=X (J U i)/\s.drew.cell? ⟨f,2,Y⟩=X (J U l)/\s.drew.cell? ⟨f,3,Y⟩=X (J U q)/\(∀m,C=X m->s.drew.heap[m]?=s.heap[m]?):=
  ⟨(ab G.blk 2).trans rfl,p0,p1,p2,p3,λ_ _=>rfl⟩
 clear p0 p1 p2 p3
 have ad:Hid (∀W,Bw s W->W.cell? ⟨c,2,Y⟩=X (.map C)/\W.cell? ⟨f,0,Y⟩=X (J U g)/\W.cell? ⟨f,1,Y⟩=X (J U i)/\W.cell? ⟨f,2,Y⟩=X (J U l)/\W.cell? ⟨f,3,Y⟩=X (J U q)/\(∀m,C=X m->W.heap[m]?=s.heap[m]?)):=λW D=>
  ⟨fV D _ _ y.1,fV D _ _ y.2.1,fV D _ _ y.2.2.1,fV D _ _ y.2.2.2.1,fV D _ _ y.2.2.2.2.1,λm hm=>D.block m (G.lt m (G.f3 m hm))⟩
 refine wT (λW=>W.cell? ⟨c,2,Y⟩=X (.map C)/\W.cell? ⟨f,0,Y⟩=X (J U g)/\W.cell? ⟨f,1,Y⟩=X (J U i)/\W.cell? ⟨f,2,Y⟩=X (J U l)/\W.cell? ⟨f,3,Y⟩=X (J U q)/\(∀m,C=X m->W.heap[m]?=s.heap[m]?)) 11 ?_;refine Qb [0,4,1,2,3] y (λw' h=>h) ?_;refine tk 5 ?_ rfl y ?_ ?_;rotate_left;intro w' h;obtain⟨V,R,T,h3,h4,M⟩:=h;have hl:=ao w' M;go_simp;rfl;try go_simp
 refine Qb [6,7,8] y (λw' h=>h) ?_;refine Dp 9 λK r=>?_;go_simp;have bw:∀o,Bw s (s.drew.alloc o):=λo=>(er _ s).drew.alloc (eb _) o;refine r _ _ (λ_=>ad _ (bw _)) ?_;clear r K;refine Dp 10 λK r=>?_;go_simp;have aC:∀o,Bw s (s.alloc o).drew:=λo=>((er _ s).alloc (eb _) o).drew;refine r _ _ (λ_=>ad _ (aC _)) ?_;clear r K;refine Dl 11 ?_;obtain⟨z,a8⟩:=Qe ((s.alloc (e2 #[o1,e0 o2] 139)).drew);have bl:z.heap[s.heap.size]?=X (e2 #[o1,e0 o2] 139 (0,0)):=by rw[<- a8];exact em s _
 have a3:Bw s z:=by rw[<- a8];exact aC _
 have a4:=Z (G.below a3);have a9:=(a3.block _ (af a5.o)).trans a5.o;have ax:=(a3.block _ (af ac.o)).trans ac.o;have b9:Hid (Bw w z):=btr aa.o a3 aa.size;have cp:=λty=>cI.len (w:=z.drew) (a4.ps.block (λ_ _=>rfl)) underlying115 ty;rw[e9,ca.o]at cp;rw[a8];clear aT y ad bw aC a8 a3 ao G ac aa a5 au;obtain⟨s0,s1⟩:=du bl;obtain⟨r0,r1⟩:=du ax;have dk:z.cell? ⟨c,2,Y⟩=X (.map C):=(ab a4.blk 2).trans rfl;have cQ:=Z a9;have bc:=Z ax;clear bl ax a9;go_wp2_with fail;refine wT (λW=>W=z.drew) 14 ?_;refine Qb [0,1,2,4,6,8,3,5,7,9,10,11] rfl (λw' h=>h) ?_;refine Ds 12 rfl ?_;refine Dp 13 λK r=>?_;go_simp;go_at_call 56;refine(HN _).mono ?_;rintro e w9⟨rfl,rfl⟩;refine r _ _ (λ_=>rfl) ?_;clear r K;refine Dl 14 ?_;by_cases hx:eD d ((g,i),l,q) n j=0;rotate_left
 .have a6:=Z hx;have dx:((eD d ((g,i),l,q) n j)==0)=false:=by simpa using hx
  generalize eD d ((g,i),l,q) n j=x at*;go_wp2_with fail;go_ret;rw[b4.o,if_neg a6.o];exact⟨rfl,F,⟨_,_,_,_,a4.below (er _ z).drew⟩,ai.of_below b9.drew⟩
 have a6:=Z hx;rw[hx];go_wp2_with (go_at_call 57;(refine gy (im (a4.o.below (er _ z).drew)) ?_;rintro e A⟨rfl,I,ma,mb,u,N,y⟩))
 have cs:¬F f:=λhf=>by have:=bb.o _ hf;have:=b7.o;omega
 have cq:¬F (w.heap.size+2):=λhf=>by have:=bb.o _ hf;omega
 have ci:f<z.drew.heap.size:=af cQ.o;have cg:w+2<z.drew.heap.size:=af bc.o;have az:=(y.block _ ci cs).trans cQ.o;have av:=(y.block _ cg cq).trans bc.o;have a0:an pairB A u _:=N.ps;obtain⟨st,bk,bd,c1,bv,bY,c4⟩:=an.entry (w:=A.drew) (an.drew a0) uz underlying115 iq ((g,i),l,q) b8 (by rw[e9];have:=N.ok.plen;unfold maxLen;omega);have aS:c≠u:=λe=>(ak a0 N.blk) e.symm;have ch:f≠u:=λe=>(ak a0 az) e.symm;have cd:w+2≠u:=λe=>(ak a0 av) e.symm;have al:Hid (∀W,aF u A W->W.cell? ⟨c,2,Y⟩=X (e5 (X u))/\W.cell? ⟨f,0,Y⟩=X (J U g)/\W.cell? ⟨f,1,Y⟩=X (J U i)/\W.cell? ⟨f,2,Y⟩=X (J U l)/\W.cell? ⟨f,3,Y⟩=X (J U q)/\W.cell? ⟨w.heap.size+2,0,Y⟩=X (J U n)/\W.cell? ⟨w.heap.size+2,1,Y⟩=X (e0 j)):=λW ho=>by obtain⟨p0,p1,p2,p3⟩:=nL ((ho.block _ ch).trans az);obtain⟨r0,r1⟩:=du ((ho.block _ cd).trans av);exact⟨(ab ((ho.block c aS).trans N.blk) 2).trans rfl,p0,p1,p2,p3,r0,r1⟩
 have b0:aF u A A.drew:=(aF.refl u A).drew;have bs:=al _ b0;have L:=Z N;have cc:=Z y;clear N y a0 az av;go_wp2_with fail;refine wT (λW=>W.cell? ⟨c,2,Y⟩=X (e5 (X u))/\W.cell? ⟨f,0,Y⟩=X (J U g)/\W.cell? ⟨f,1,Y⟩=X (J U i)/\W.cell? ⟨f,2,Y⟩=X (J U l)/\W.cell? ⟨f,3,Y⟩=X (J U q)/\W.cell? ⟨w.heap.size+2,0,Y⟩=X (J U n)/\W.cell? ⟨w.heap.size+2,1,Y⟩=X (e0 j)) 12 ?_;refine Qb [0,4,5,6,1,2,3] bs (λw' h=>h) ?_;refine Dp 7 λK r=>?_;refine bH rfl c1 ?_;have b3:aF u A (gp A.drew u (.map bk bd)):=b0.trans bY;have ay:=al _ b3;generalize gp A.drew u (.map bk bd)=w4 at*;refine r _ _ (λ_=>ay) ?_;clear r K;go_simp;refine Qb [8] ay (λw' h=>h) ?_
 refine Dp 9 λK r=>?_;obtain⟨E,c2,bO,c0⟩:=c4 w4 (.agg #[n,e0 j]) bv;refine bj rfl c2 ?_;have O:aF u A E:=b3.trans c0;have a7:=al _ O;refine r _ _ (λ_=>a7) ?_;clear r K;go_simp;refine Ds 10 a7 ?_;refine Qb [11] a7 (λw' h=>h) ?_
 have bB:an pairB E u ((insL ltPK d.ps ((g,i),l,q) (n,j)).map λp=>(p.1,gJ p.2)):=bO.perm (jB dQ L.ok.ok.ps (λ_ v=>gJ v) ((g,i),l,q) (n,j));have hF:=L.put3 O bB (c5 a6.o);have c3:E.cell? ⟨c,3,Y⟩=X kn:=(O.cell (p:=⟨c,3,Y⟩) aS).trans ((ab L.blk 3).trans rfl);have f3:E.frozen? ⟨c,3,Y⟩=false:=(O.frozen (p:=⟨c,3,Y⟩) aS).trans (ae L.blk 3);have HF:=Z hF;have cb:=Z O;clear hF bs ay a7 bO bB c2 c0 bY c4 c1 bv O b0 b3;refine Dl 12 ?_;go_wp2_with fail;go_ret;rw[b4.o,if_pos a6.o];refine⟨rfl,I,⟨_,_,_,_,HF.o⟩,?_⟩;have cu:ai F w F z.drew:=ai.of_below b9.drew;have cv:ai I A I E:=ai.of_only cb.o (L.f3 u rfl);have cx:ai I E I (E.setCell ⟨c,3,Y⟩ (e3 Y)):=ai.of_only (aF.setCell (aF.refl c E) 3 _) L.fc;exact((cu.trans cc.o).trans cv).trans cx
theorem tu(F:Nat->Prop)(w:fb)(c:Nat)(d:aB)(h:bG F w c d)(a b:RK)(n:Int)(r:rkOk a)(s:rkOk b)(hn:i64B n):
 hd prog 39 #[.pointer c,recK a,recK b,n] w λe w'=>e=e4 (J U (decideC d a b n false).2)/\∃g,bG g w' c (decideC d a b n false).1/\ai F w g w':=by
 have i:∀o f,Bw w ((w.alloc o).alloc f):=λo f=>((er _ w).alloc (eb _) o).alloc (by simp) f;have l:=Z (λo f=>oQ F ((w.alloc o).alloc f) c d (h.below (i o f)) a b n false r s hn);have k:=Z i;clear h i;obtain⟨t,u⟩:=a;obtain⟨v,x⟩:=b;unfold recK gJ at*;dsimp only at*;go_enter func39,ntmps39;go_wp2_with (go_at_call 76;(refine gy (l.o _ _) ?_;rintro e y⟨rfl,j⟩;have m:=Z j;clear j))
 go_ret;obtain⟨g,p,q⟩:=m.o;exact⟨rfl,g,p,(ai.of_below (k _ _)).trans q⟩
theorem vO(F:Nat->Prop)(w:fb)(c:Nat)(d:aB)(h:bG F w c d)(a b:RK)(n:Int)(r:rkOk a)(s:rkOk b)(hn:i64B n):
 hd prog 40 #[.pointer c,recK a,recK b,n] w λe w'=>e=e4 (J U (decideC d a b n true).2)/\∃g,bG g w' c (decideC d a b n true).1/\ai F w g w':=by
 have i:∀o f,Bw w ((w.alloc o).alloc f):=λo f=>((er _ w).alloc (eb _) o).alloc (by simp) f;have l:=Z (λo f=>oQ F ((w.alloc o).alloc f) c d (h.below (i o f)) a b n true r s hn);have k:=Z i;clear h i;obtain⟨t,u⟩:=a;obtain⟨v,x⟩:=b;unfold recK gJ at*;dsimp only at*;go_enter func40,ntmps40;go_wp2_with (go_at_call 76;(refine gy (l.o _ _) ?_;rintro e y⟨rfl,j⟩;have m:=Z j;clear j))
 go_ret;obtain⟨g,p,q⟩:=m.o;exact⟨rfl,g,p,(ai.of_below (k _ _)).trans q⟩
end
section
open Go.RowKit Go.Maps Go.Shelf Go.WideShapes
attribute [local go_sem] Oper.semAt_some
set_option linter.unusedSectionVars false
section
variable {P:Program} {kt:TypeId} {K:Type} [DecidableEq K] {B:eJ P kt K} {F:Fence} {nF:Nat}
variable (w:fb) {ops:Array Oper} {rest:List Oper} {o:Oper} {a:Act} {Q:Exit->Act->fb->Prop}
theorem qU(y:o.guard=Y)(m:Operand)(t:TypeId)(D:o.op=Op.range t m)(e:TypeId)(G:P.underlying t=X (.map kt e))
 (b:Nat)(l:List (K×fz))(C:a.eval m=e5 (X b))(h:an B w b l)
 (x:∀w',cJ B w' b w l l->Bw w w'->w'.heap.size=w+1->wpListIn F nF P ops Q rest (a.put o.dst (.pointer w)) w'):wpListIn F nF P ops Q (o::rest) a w:=by
 have hn:=h.nodup;obtain⟨s,g,f,i⟩:=h;refine wpListIn_range_own w y m t D kt e B.keyed G heldR b _ _ C g λw' u c v=>x w' ⟨s,_,_,u,f,i,List.Sublist.refl _,λp d=>?_,λz j=>?_⟩ ⟨c.os,c.tape,c.output,c.size,λk A=>c.block k A (by simp)⟩ v
 .refine⟨λ_=>d,λ_=>?_⟩;exact Maps.has_true_of_atKey λz=>an.at_some g f hn (i p d) ((bC hn).2 d) z
 rw[Maps.has_eq,List.any_eq_true]at j;obtain⟨q,E,e⟩:=j;obtain⟨p,d,r⟩:=List.mem_map.1 (f.mem_iff.1 E);exact⟨p,d,by rw[<- WideAt.sameKey_eq e,<- r]⟩
theorem tF(hg:o.guard=Y)(L:Operand)(aa:o.op=Op.next L false)(b r:Nat)(l left:List (K×fz))(a8:a.eval L=.pointer r)(h:cJ B w b r l left)
 (a4:left=[]->wpListIn F nF P ops Q rest (a.put o.dst (.tuple #[e0 false])) w)
 (a5:∀(p:K×fz)(w':fb),p∈left->B.ok p.1->cJ B w' b r l (cK left p.1)->(cK left p.1).length<left->aF r w w'->
  (Instr.entry (.pointer r)).run P w'=.ok (.tuple #[B.kv p.1,p.2]) w'->wpListIn F nF P ops Q rest (a.put o.dst (.tuple #[e0 true,B.kv p.1,p.2])) w'):
 wpListIn F nF P ops Q (o::rest) a w:=by
 have hn:=h.map.nodup;obtain⟨es,f,a0,M,N,E,t,O,R⟩:=h;refine wpListIn_next_ranges w hg L aa kt B.keyed heldR (λv:fz=>v) (λv:fz=>v) (λkey W _=>⟨key,rfl⟩) (λv y _=>⟨v,rfl⟩) b r _ _ f a0 a8 M (λh0 hl=>a4 ?_) λx c W y w' a3 H a9 V a6 ac ao u ad a7=>?_
 .rcases left with _|⟨p,left⟩
  .rfl
  have:=(O p (t.subset hH)).2 hH;rw[hl]at this;cases this
 obtain⟨p,g,e⟩:=R W a9;have I:=t.subset g;have A:=E p I;have al:x=B.kv p.1:=B.keyed.inj H (by rw[<- e];exact B.key _ A);have hc:p.2=c:=by have G:=a6 (.held undef);rw[<- e,an.at_some M.owns N hn A ((bC hn (k:=p.1) (v:=p.2)).2 I)]at G;simp only[heldR,Option.some.injEq]at V;rw[<- V]at G;injection G
 have T:(left.map (·.1)).Nodup:=hn.sublist (t.map _);subst al;subst hc;refine a5 p w' g A ⟨es,_,a3,ac,N,E,(List.filter_sublist).trans t,λq i=>?_,λz C=>?_⟩ (zX g) ⟨u.os,u.tape,u.output,ad,λk hk=>?_⟩ a7
 .rw[iB T g,<- O q i];simp only[Bool.and_eq_true,fy];constructor
  .rintro⟨D,s⟩;refine⟨D,λd=>?_⟩;rw[d,e,hA (B.keyed.key H)]at s;cases s
  rintro⟨D,s⟩;refine⟨D,Maps.sameKey_ne λd=>s ?_⟩;rw[<- e]at d;have m:=B.lit_inj (E q i) A d;have j:=(bC hn (k:=q.1) (v:=q.2)).2 i;have a2:=(bC hn (k:=p.1) (v:=p.2)).2 I;rw[m,a2]at j;injection j with j
  exact Prod.ext m j.symm
 .simp only[Bool.and_eq_true,fy]at C;obtain⟨q,i,d⟩:=R z C.1;refine⟨q,(iB T g).2 ⟨i,λm=>?_⟩,d⟩;rw[<- d,m,e,hA (B.keyed.key H)]at C;cases C.2
 by_cases hk2:k<w
 .exact u.block k hk2 (by simpa using hk)
 rw[hu (by omega),hu (by omega)]
theorem pQ(a b:Int):recB.kv (a,b)=.agg #[a,b]:=rfl
theorem zj(a b c d:Int):pairB.kv ((a,b),(c,d))=.agg #[a,b,c,d]:=rfl
def ec(B:eJ P kt K)(w:fb)(mv:Option Nat)(r:Nat)(l left:List (K×fz)):Prop:=match mv with
 |none=>l=[]/\left=[]/\w.heap[r]?=X (.mapIter Y 0 #[] 0)
 |some b=>cJ B w b r l left
theorem ec.lt{w:fb}{mv:Option Nat}{r:Nat}{l left:List (K×fz)}(h:ec B w mv r l left):r<w:=by
 cases mv with
 |none=>exact af h.2.2
 |some b=>exact cJ.lt h
theorem ec.kept{w w':fb}{mv:Option Nat}{r:Nat}{l left:List (K×fz)}(h:ec B w mv r l left)(c:hz w w'):ec B w' mv r l left:=by
 cases mv with
 |none=>exact⟨h.1,h.2.1,c.same r _ h.2.2 rfl⟩
 |some b=> have h:cJ B w b r l left:=h;obtain⟨i,f,e,⟨g,c1,u,v,d,j,k,m,p,q,s⟩,t⟩:=h;exact⟨i,f,e,⟨g,c1,u,v,d,c.same b _ j rfl,k,m,p,c.same r _ q rfl,s⟩,t⟩
theorem ec.nodup{w:fb}{mv:Option Nat}{r:Nat}{l left:List (K×fz)}(h:ec B w mv r l left):(left.map (·.1)).Nodup:=by
 cases mv with
 |none=> obtain⟨_,c,_⟩:=h;subst c;exact List.nodup_nil
 |some b=> have h:cJ B w b r l left:=h;have hn:=h.map.nodup;obtain⟨g,f,e,i,c,j,d,_⟩:=h;exact hn.sublist (d.map _)
theorem jD{l:List (K×fz)}(hn:(l.map (·.1)).Nodup){k:K}{v:fz}(b:(k,v)∈l):([k]++(cK l k).map (·.1)).Perm (l.map (·.1)):=by
 induction l with
 |nil=>cases b
 |cons p l ih=>
  rw[g9,List.nodup_cons]at hn;unfold cK at ih ⊢;rw[List.filter_cons];by_cases e:p.1=k
  .rw[if_neg (by simp[e])];have:l.filter (λq=> !decide (q.1=k))=l:=by rw[List.filter_eq_self];intro q f;simp only[fy,decide_eq_false_iff_not];intro c;exact hn.1 (by rw[e,<- c];exact List.mem_map.2 ⟨q,f,rfl⟩)
   rw[this,g9,e];exact .refl _
  rw[if_pos (by simp[e]),g9,g9];have d:(k,v)∈l:=by
   rcases List.mem_cons.1 b with h|h
   .exact absurd (by rw[<- h]) e
   exact h
  exact(List.Perm.swap _ _ _).trans ((ih hn.2 d).cons _)
theorem fo(g:o.guard=Y)(m:Operand)(t:TypeId)(d:o.op=Op.range t m)(e:TypeId)(j:P.underlying t=X (.map kt e))
 (mv:Option Nat)(l:List (K×fz))(i:a.eval m=.map mv)(h:cI B w mv l)
 (f:∀w',ec B w' mv w l l->Bw w w'->w'.heap.size=w+1->wpListIn F nF P ops Q rest (a.put o.dst (.pointer w)) w'):wpListIn F nF P ops Q (o::rest) a w:=by
 cases mv with
 |some b=>exact qU w g m t d e j b l i h f
 |none=> have h:l=[]:=h;subst h;refine wpListIn_plain g λr k=>?_;unfold Oper.wpIn;refine⟨by simp[Oper.about,d],?_⟩;rw[Oper.semAt_plain F _ _ (by rw[d];intro c q;cases q)];have p:Bw w (w.alloc (.mapIter Y 0 #[] 0)):=(er _ w).alloc (eb _) _;have:=f (w.alloc (.mapIter Y 0 #[] 0)) ⟨rfl,rfl,em w _⟩ p (by simp);simp[execOp,d,i,Instr.range,run_underlying j,hj];exact k _ _ this
theorem ga(g:o.guard=Y)(e:Operand)(d:o.op=Op.next e false)(mv:Option Nat)(r:Nat)(l left:List (K×fz))(i:a.eval e=.pointer r)(h:ec B w mv r l left)
 (f:left=[]->wpListIn F nF P ops Q rest (a.put o.dst (.tuple #[e0 false])) w)
 (k:∀(p:K×fz)(w':fb),p∈left->B.ok p.1->ec B w' mv r l (cK left p.1)->(cK left p.1).length<left->aF r w w'->
  (Instr.entry (.pointer r)).run P w'=.ok (.tuple #[B.kv p.1,p.2]) w'->wpListIn F nF P ops Q rest (a.put o.dst (.tuple #[e0 true,B.kv p.1,p.2])) w'):
 wpListIn F nF P ops Q (o::rest) a w:=by
 cases mv with
 |some b=>exact tF w g e d b r l left i h f k
 |none=>
  obtain⟨_,s,t⟩:=h;refine wpListIn_plain g λv j=>?_;unfold Oper.wpIn;refine⟨by simp[Oper.about,d],?_⟩;rw[Oper.semAt_plain F _ _ (by rw[d];intro c m;cases m)];have u:(Instr.next (.pointer r) false o.type).run P w=.ok (.tuple #[e0 false]) w:=by
   have q:(getObj r).run P w=.ok (.mapIter Y 0 #[] 0) w:=by simp[getObj,Sem.run,t]
   simp[Instr.next,q,hj]
  simp[execOp,d,i,u,hj];exact j _ _ (f s)
end
theorem zy(n:Nat)(hn:1<=n)(q:Nat)(mv:Option Nat)(l:List (RK×fz))(r:fb)(A:r.cell? q=X (.map mv))(M:cI recB r mv l)(ad:∀b,mv=X b->b<r):
 jr gd n prog 89 #[.pointer q] (λx:RK=> #[recK x]) (λxs=>xs.Perm (l.map (·.1))) (λ_=>True) (λd x=>d.length<l.length/\rkOk x) (λ_=>False) r:=by
 intro av y Jx W z E H D;have c0:W.cell? q=X (.map mv):=(z.cell (p:=q) (bE A)).trans A;have ac:cI recB W mv l:=M.block (λb hb=>z.block b (ad b hb));have s:=Z E;have HY:=Z H;have V:=Z D;clear E H D z A M;refine gO func89 rfl trivial ?_ rfl;simp only[ntmps89,fp,e7,fx,gn,gi,eQ,ex,fr,e8,fs,ft];gi_wp2_with (refine fo _ rfl _ _ rfl 36 underlying92 mv l rfl ac ?_;intro w1 O i T)
 have I:y (λk=>k=W) [] w1:=s.o _ _ _ _ _ V.o ⟨i.os,i.tape,i.output,i.size,λk c _ _=>i.block k c,λk c=>.inr (by rw[c];exact eb _),λk c=>by rw[c,T];omega⟩;have a3:=Z O;have a0:=Z I;have aC:W.heap.size<w1:=by omega
 clear O I i T;gi_loopg [] (l.length+1) (λg wr=>∃d left,left.length<g/\Hid (ec recB wr mv W l left)/\Hid (y (λk=>k=W) d wr)/\Hid ((d++left.map (·.1)).Perm (l.map (·.1))))
 case atStart=>exact⟨[],l,by omega,a3,a0,by unfold Hid;simp⟩
 obtain⟨d,left,aT,u,C,t⟩:=hrel;have b0:W.heap.size<wr:=u.lt;gi_wp2_with (refine ga _ rfl _ rfl mv W l left rfl u.o ?_ ?_)
 .intro a9;subst a9;gi_wp2
  go_end0
  refine⟨⟨_,rfl⟩,.inl ⟨_,d,?_,C.o⟩⟩;have:=t.o;simpa using this
 intro f h v m N ao R aa j a6;have au:d.length<l.length:=by have h1:=t.length_eq;simp only[fl,e9]at h1;have:=gt N;omega
 have b1:m.heap.size=wr:=j.size;have L:y (λk=>k=W) d m:=s.o _ _ _ _ _ C.o ⟨j.os,j.tape,j.output,by omega,λk _ c _=>j.block k c,λk c=>.inl c,λk c=>by rw[c];omega⟩;have a1:=Z L;have a4:=Z R;have ax:=Z j;clear R L;simp only[pQ]at a6 ⊢;obtain⟨fn,b3,ay,az,hy,G⟩:=HY.o (λk=>k=W) d (f,h) (m.alloc (g7 #[f,h] 36)) (s.o _ _ _ _ _ a1.o (dj.alloc (λk c=>by rw[c];omega) _)) ⟨au,ao⟩;have a5:=Z G;clear G;have b2:(Instr.yield av #[Value.agg #[f,h]]).run prog (m.alloc (g7 #[f,h] 36))=_:=hy;gi_wp2
 refine a5.mono ?_;have a2:Hid (((d++[(f,h)])++(cK left (f,h)).map (·.1)).Perm (l.map (·.1))):=by refine List.Perm.trans ?_ t.o;rw[g6];exact(jD u.nodup N).append_left d
 rintro e w3(⟨rfl,a7,aS,al⟩|⟨rfl,a8⟩)
 .gi_wp2
  gi_roundg (left.length)
  case rel=> refine⟨d++[(f,h)],cK left (f,h),aa,?_,a7,a2⟩;exact(a4.kept ((gq m _).trans al))
  omega
 gi_wp2
 refine hr (hq rfl _ _ _) rfl ?_;exact⟨⟨_,rfl⟩,.inr ⟨_,d++[(f,h)],trivial,a8⟩⟩
theorem zx(n:Nat)(hn:1<=n)(q:Nat)(mv:Option Nat)(l:List (RK×fz))(r:fb)(A:r.cell? q=X (.map mv))(M:cI recB r mv l)(ad:∀b,mv=X b->b<r):
 jr gd n prog 95 #[.pointer q] (λx:RK=> #[recK x]) (λxs=>xs.Perm (l.map (·.1))) (λ_=>True) (λd x=>d.length<l.length/\rkOk x) (λ_=>False) r:=by
 intro av y Jx W z E H D;have c0:W.cell? q=X (.map mv):=(z.cell (p:=q) (bE A)).trans A;have ac:cI recB W mv l:=M.block (λb hb=>z.block b (ad b hb));have s:=Z E;have HY:=Z H;have V:=Z D;clear E H D z A M;refine gO func95 rfl trivial ?_ rfl;simp only[ntmps95,fp,e7,fx,gn,gi,eQ,ex,fr,e8,fs,ft];gi_wp2_with (refine fo _ rfl _ _ rfl 52 underlying93 mv l rfl ac ?_;intro w1 O i T)
 have I:y (λk=>k=W) [] w1:=s.o _ _ _ _ _ V.o ⟨i.os,i.tape,i.output,i.size,λk c _ _=>i.block k c,λk c=>.inr (by rw[c];exact eb _),λk c=>by rw[c,T];omega⟩;have a3:=Z O;have a0:=Z I;have aC:W.heap.size<w1:=by omega
 clear O I i T;gi_loopg [] (l.length+1) (λg wr=>∃d left,left.length<g/\Hid (ec recB wr mv W l left)/\Hid (y (λk=>k=W) d wr)/\Hid ((d++left.map (·.1)).Perm (l.map (·.1))))
 case atStart=>exact⟨[],l,by omega,a3,a0,by unfold Hid;simp⟩
 obtain⟨d,left,aT,u,C,t⟩:=hrel;have b0:W.heap.size<wr:=u.lt;gi_wp2_with (refine ga _ rfl _ rfl mv W l left rfl u.o ?_ ?_)
 .intro a9;subst a9;gi_wp2
  go_end0
  refine⟨⟨_,rfl⟩,.inl ⟨_,d,?_,C.o⟩⟩;have:=t.o;simpa using this
 intro f h v m N ao R aa j a6;have au:d.length<l.length:=by have h1:=t.length_eq;simp only[fl,e9]at h1;have:=gt N;omega
 have b1:m.heap.size=wr:=j.size;have L:y (λk=>k=W) d m:=s.o _ _ _ _ _ C.o ⟨j.os,j.tape,j.output,by omega,λk _ c _=>j.block k c,λk c=>.inl c,λk c=>by rw[c];omega⟩;have a1:=Z L;have a4:=Z R;have ax:=Z j;clear R L;simp only[pQ]at a6 ⊢;obtain⟨fn,b3,ay,az,hy,G⟩:=HY.o (λk=>k=W) d (f,h) (m.alloc (g7 #[f,h] 36)) (s.o _ _ _ _ _ a1.o (dj.alloc (λk c=>by rw[c];omega) _)) ⟨au,ao⟩;have a5:=Z G;clear G;have b2:(Instr.yield av #[Value.agg #[f,h]]).run prog (m.alloc (g7 #[f,h] 36))=_:=hy;gi_wp2
 refine a5.mono ?_;have a2:Hid (((d++[(f,h)])++(cK left (f,h)).map (·.1)).Perm (l.map (·.1))):=by refine List.Perm.trans ?_ t.o;rw[g6];exact(jD u.nodup N).append_left d
 rintro e w3(⟨rfl,a7,aS,al⟩|⟨rfl,a8⟩)
 .gi_wp2
  gi_roundg (left.length)
  case rel=> refine⟨d++[(f,h)],cK left (f,h),aa,?_,a7,a2⟩;exact(a4.kept ((gq m _).trans al))
  omega
 gi_wp2
 refine hr (hq rfl _ _ _) rfl ?_;exact⟨⟨_,rfl⟩,.inr ⟨_,d++[(f,h)],trivial,a8⟩⟩
theorem xl(n:Nat)(hn:1<=n)(q:Nat)(mv:Option Nat)(l:List (RK×fz))(r:fb)(A:r.cell? q=X (.map mv))(M:cI recB r mv l)(ad:∀b,mv=X b->b<r):
 jr gd n prog 108 #[.pointer q] (λx:RK=> #[recK x]) (λxs=>xs.Perm (l.map (·.1))) (λ_=>True) (λd x=>d.length<l.length/\rkOk x) (λ_=>False) r:=by
 intro av y Jx W z E H D;have c0:W.cell? q=X (.map mv):=(z.cell (p:=q) (bE A)).trans A;have ac:cI recB W mv l:=M.block (λb hb=>z.block b (ad b hb));have s:=Z E;have HY:=Z H;have V:=Z D;clear E H D z A M;refine gO func108 rfl trivial ?_ rfl;simp only[ntmps108,fp,e7,fx,gn,gi,eQ,ex,fr,e8,fs,ft];gi_wp2_with (refine fo _ rfl _ _ rfl 64 underlying113 mv l rfl ac ?_;intro w1 O i T)
 have I:y (λk=>k=W) [] w1:=s.o _ _ _ _ _ V.o ⟨i.os,i.tape,i.output,i.size,λk c _ _=>i.block k c,λk c=>.inr (by rw[c];exact eb _),λk c=>by rw[c,T];omega⟩;have a3:=Z O;have a0:=Z I;have aC:W.heap.size<w1:=by omega
 clear O I i T;gi_loopg [] (l.length+1) (λg wr=>∃d left,left.length<g/\Hid (ec recB wr mv W l left)/\Hid (y (λk=>k=W) d wr)/\Hid ((d++left.map (·.1)).Perm (l.map (·.1))))
 case atStart=>exact⟨[],l,by omega,a3,a0,by unfold Hid;simp⟩
 obtain⟨d,left,aT,u,C,t⟩:=hrel;have b0:W.heap.size<wr:=u.lt;gi_wp2_with (refine ga _ rfl _ rfl mv W l left rfl u.o ?_ ?_)
 .intro a9;subst a9;gi_wp2
  go_end0
  refine⟨⟨_,rfl⟩,.inl ⟨_,d,?_,C.o⟩⟩;have:=t.o;simpa using this
 intro f h v m N ao R aa j a6;have au:d.length<l.length:=by have h1:=t.length_eq;simp only[fl,e9]at h1;have:=gt N;omega
 have b1:m.heap.size=wr:=j.size;have L:y (λk=>k=W) d m:=s.o _ _ _ _ _ C.o ⟨j.os,j.tape,j.output,by omega,λk _ c _=>j.block k c,λk c=>.inl c,λk c=>by rw[c];omega⟩;have a1:=Z L;have a4:=Z R;have ax:=Z j;clear R L;simp only[pQ]at a6 ⊢;obtain⟨fn,b3,ay,az,hy,G⟩:=HY.o (λk=>k=W) d (f,h) (m.alloc (g7 #[f,h] 36)) (s.o _ _ _ _ _ a1.o (dj.alloc (λk c=>by rw[c];omega) _)) ⟨au,ao⟩;have a5:=Z G;clear G;have b2:(Instr.yield av #[Value.agg #[f,h]]).run prog (m.alloc (g7 #[f,h] 36))=_:=hy;gi_wp2
 refine a5.mono ?_;have a2:Hid (((d++[(f,h)])++(cK left (f,h)).map (·.1)).Perm (l.map (·.1))):=by refine List.Perm.trans ?_ t.o;rw[g6];exact(jD u.nodup N).append_left d
 rintro e w3(⟨rfl,a7,aS,al⟩|⟨rfl,a8⟩)
 .gi_wp2
  gi_roundg (left.length)
  case rel=> refine⟨d++[(f,h)],cK left (f,h),aa,?_,a7,a2⟩;exact(a4.kept ((gq m _).trans al))
  omega
 gi_wp2
 refine hr (hq rfl _ _ _) rfl ?_;exact⟨⟨_,rfl⟩,.inr ⟨_,d++[(f,h)],trivial,a8⟩⟩
theorem xj(n:Nat)(hn:1<=n)(s:Nat)(mv:Option Nat)(l:List (PK×fz))(t:fb)(D:t.cell? s=X (.map mv))(O:cI pairB t mv l)(al:∀b,mv=X b->b<t):
 jr gd n prog 121 #[.pointer s] (λx:PK=> #[pairV x]) (λxs=>xs.Perm (l.map (·.1))) (λ_=>True) (λd x=>d.length<l.length/\pkOk x) (λ_=>False) t:=by
 intro ax A Jx W C H L G;have c0:W.cell? s=X (.map mv):=(C.cell (p:=s) (bE D)).trans D;have ad:cI pairB W mv l:=O.block (λb hb=>C.block b (al b hb));have u:=Z H;have HY:=Z L;have H0:=Z G;clear H L G C D O;refine gO func121 rfl trivial ?_ rfl;simp only[ntmps121,fp,e7,fx,gn,gi,eQ,ex,fr,e8,fs,ft];gi_wp2_with (refine fo _ rfl _ _ rfl 139 underlying115 mv l rfl ad ?_;intro w1 T m a0)
 have M:A (λk=>k=W) [] w1:=u.o _ _ _ _ _ H0.o ⟨m.os,m.tape,m.output,m.size,λk c _ _=>m.block k c,λk c=>.inr (by rw[c];exact eb _),λk c=>by rw[c,a0];omega⟩;have a4:=Z T;have a1:=Z M;have aS:W.heap.size<w1:=by omega
 clear T M m a0;gi_loopg [] (l.length+1) (λg wr=>∃d left,left.length<g/\Hid (ec pairB wr mv W l left)/\Hid (A (λk=>k=W) d wr)/\Hid ((d++left.map (·.1)).Perm (l.map (·.1))))
 case atStart=>exact⟨[],l,by omega,a4,a1,by unfold Hid;simp⟩
 obtain⟨d,left,b0,z,E,y⟩:=hrel;have b1:W.heap.size<wr:=z.lt;gi_wp2_with (refine ga _ rfl _ rfl mv W l left rfl z.o ?_ ?_)
 .intro aa;subst aa;gi_wp2
  go_end0
  refine⟨⟨_,rfl⟩,.inl ⟨_,d,?_,E.o⟩⟩;have:=y.o;simpa using this
 intro f h i j v r R au V ac q a7;have av:d.length<l.length:=by have h1:=y.length_eq;simp only[fl,e9]at h1;have:=gt R;omega
 have b2:r.heap.size=wr:=q.size;have N:A (λk=>k=W) d r:=u.o _ _ _ _ _ E.o ⟨q.os,q.tape,q.output,by omega,λk _ c _=>q.block k c,λk c=>.inl c,λk c=>by rw[c];omega⟩;have a2:=Z N;have a5:=Z V;have ay:=Z q;clear V N;simp only[zj]at a7 ⊢;obtain⟨fn,b4,az,aC,hy,I⟩:=HY.o (λk=>k=W) d ((f,h),(i,j)) (r.alloc (g7 #[f,h,i,j] 134)) (u.o _ _ _ _ _ a2.o (dj.alloc (λk c=>by rw[c];omega) _)) ⟨av,au⟩;have a6:=Z I;clear I;have b3:(Instr.yield ax #[Value.agg #[f,h,i,j]]).run prog (r.alloc (g7 #[f,h,i,j] 134))=_:=hy;gi_wp2
 refine a6.mono ?_;have a3:Hid (((d++[((f,h),(i,j))])++(cK left ((f,h),(i,j))).map (·.1)).Perm (l.map (·.1))):=by refine List.Perm.trans ?_ y.o;rw[g6];exact(jD z.nodup R).append_left d
 rintro e w3(⟨rfl,a8,aT,ao⟩|⟨rfl,a9⟩)
 .gi_wp2
  gi_roundg (left.length)
  case rel=> refine⟨d++[((f,h),(i,j))],cK left ((f,h),(i,j)),ac,?_,a8,a3⟩;exact(a5.kept ((gq r _).trans ao))
  omega
 gi_wp2
 refine hr (hq rfl _ _ _) rfl ?_;exact⟨⟨_,rfl⟩,.inr ⟨_,d++[((f,h),(i,j))],trivial,a9⟩⟩
theorem BF(mv:Option Nat)(w:fb):hd prog 48 #[.map mv] w λe w'=>e=e4 (.func (.func 89) #[] #[.pointer w])/\w'=w.alloc (e2 #[.map mv] 92):=by
 go_enter func48,ntmps48;go_wp2_with fail;go_ret;exact⟨rfl,rfl⟩
theorem BE(mv:Option Nat)(w:fb):hd prog 51 #[.map mv] w λe w'=>e=e4 (.func (.func 95) #[] #[.pointer w])/\w'=w.alloc (e2 #[.map mv] 93):=by
 go_enter func51,ntmps51;go_wp2_with fail;go_ret;exact⟨rfl,rfl⟩
theorem BD(mv:Option Nat)(w:fb):hd prog 61 #[.map mv] w λe w'=>e=e4 (.func (.func 108) #[] #[.pointer w])/\w'=w.alloc (e2 #[.map mv] 113):=by
 go_enter func61,ntmps61;go_wp2_with fail;go_ret;exact⟨rfl,rfl⟩
theorem BC(mv:Option Nat)(w:fb):hd prog 66 #[.map mv] w λe w'=>e=e4 (.func (.func 121) #[] #[.pointer w])/\w'=w.alloc (e2 #[.map mv] 115):=by
 go_enter func66,ntmps66;go_wp2_with fail;go_ret;exact⟨rfl,rfl⟩
end
section
open Go.RowKit Go.Shelf
section
variable {F:Fence} {n:Nat} {P:Program}
theorem nT{α:Type}{g:Operand}{ps:Array Tmp}{assign body:Code}{Q:Exit->Act->fb->Prop}{a:Act}{w:fb}
 (bt:F.round=Y)(h1:1<=n){gf:Nat}{lb:Array fz}(hg:a.eval g=.func (.func gf) #[] lb)(ax:F.fn gf)(eg:∀args w,(callFunc gf args).run P w=.ok (.enter gf args) w)
 {a1:α->Array fz}{S Sp:List α->Prop}{G:List α->α->Prop}{M0:Nat->Prop}{w0:fb}(bv:jr F (n-1) P gf lb a1 S Sp G M0 w0)(a5:∀k,M0 k->k<w)(al:Bw w0 w)(bs:∀x,(a1 x).size=ps.size)
 (I:(Nat->Prop)->List α->fb->Prop)(Ix:Code->(Nat->Prop)->List α->fb->Prop)(H:io w I)(a4:∀c,io w (Ix c))(a7:∀M s C,I M s C->∀k,M k->k<C.heap.size)(a8:∀c M s C,Ix c M s C->∀k,M k->k<C.heap.size)
 (h0:I M0 [] w)(a₁:α->Nat->Act)(ob:α->Obj)
 (b4:∀(l:Nat)(x:α)(W:fb)(K:Act->fb->Prop),K (a₁ x W) (W.alloc (ob x))->
  assign.wpIn (F.inRound l) (n-1-1) P (Exit.then K (λ_ _ _=>False)) {tmps:=(ps.zip (a1 x)).foldl (λt(p,v)=>t.setIfInBounds p v) a.tmps,defers:=[]} W)
 (b6:∀(l:Nat)(M:Nat->Prop)(d:List α)(x:α)(W:fb)(N:Nat),I M d W->G d x->w<=N->W.heap[N]?=X (ob x)->body.wpIn (F.inRound l) (n-1-1) P (Cm M I Ix (d++[x]) W) (a₁ x N) W)
 (b7:∀(D:Nat)(M:Nat->Prop)(xs:List α)(W:fb),w<=D->S xs->I M xs W->W.heap[D]?=X (.deferred (X []))->Q .normal {a with defers:={target:=.collected D,args:= #[]}::a.defers} W)
 (bw:∀(D:Nat)(c:Code)(M:Nat->Prop)(d:List α)(W:fb),w<=D->Sp d->Ix c M d W->W.heap[D]?=X (.deferred (X []))->c.wpIn F n P Q {a with defers:={target:=.collected D,args:= #[]}::a.defers} W):
 (Code.rangeFunc g ps assign body).wpIn F n P Q a w:=by
 refine wpIn_rangeFunc ?_;intro fn b8;rw[bt];obtain⟨rec,A⟩:∃rec:LoopState->Option Code->Loop,rec=λst pe=>{state:=st,pending:=pe,fn,tmps:=a.tmps,params:=ps,assign,body,defers:=w.heap.size}:=⟨_,rfl⟩;obtain⟨r,a0⟩:=Qe ((w.alloc (.deferred (X []))).alloc (.loop (rec .ready Y)));have aC:r.heap[w.heap.size+1]?=X (.loop (rec .ready Y)):=by rw[<- a0];have:=em (w.alloc (.deferred (X []))) (.loop (rec .ready Y));rwa[g8]at this
 have az:r.heap[w.heap.size]?=X (.deferred (X [])):=by rw[<- a0];exact(gb _ _ _ (by simp)).trans (em w _)
 have ay:I M0 [] r:=by rw[<- a0];exact H _ _ _ _ _ (H _ _ _ _ _ h0 (dj.alloc a5 _)) (dj.alloc (λk b=>by have:=a5 k b;simp;omega) _)
 have bA:r.heap.size=w+2:=by rw[<- a0];simp
 have b5:Bw w0 r:=by rw[<- a0];exact al.trans ((((er _ w).alloc (eb _) _).alloc (by simp) _).mono al.size)
 refine⟨w.heap.size+1,[{target:=.collected w,args:= #[]}],r,{target:=.fn (.func gf) lb,args:= #[.func (.yield (w.heap.size+1)) #[] #[]]},r,gf,
  #[.func (.yield (w.heap.size+1)) #[] #[]]++lb,r,?_,?_,?_,?_,λ_=>h1,?_⟩
 .rw[<- a0,A];exact run_enterLoop_outer _ _ _ _ _
 .simp only[resolve,hg];simp[go_sem]
 .intro f' ao;simp[Target.leads]at ao;subst ao;exact ax
 .simp[invoke,go_sem,eg]
 refine(bv (w.heap.size+1)
  (λM d W=>I M d W/\¬M (w.heap.size+1)/\¬M w/\W.heap[w.heap.size+1]?=X (.loop (rec .ready Y))/\W.heap[w.heap.size]?=X (.deferred (X [])))
  (λM d W=>∃c,Ix c M d W/\W.heap[w.heap.size+1]?=X (.loop (rec .done (X c)))/\W.heap[w.heap.size]?=X (.deferred (X [])))
  r b5
  (λM s C M' av hs y=>by
   obtain⟨z,n1,n2,j,b⟩:=hs
   have bd:w+1<C.heap.size:=(Array.getElem?_eq_some_iff.1 j).1
   have hT:dj w M C M' av:=⟨y.os,y.tape,y.output,y.size,λk b h2 h3=>y.block k b h2 λhB o O=>h3 (by omega) o O,y.new,y.lt⟩
   exact⟨H _ _ _ _ _ z hT,λh=>by rcases y.new _ h with h|h;exact n1 h;omega,λh=>by rcases y.new _ h with h|h;exact n2 h;omega,
    (y.block _ bd n1 (λhB=>by omega)).trans j,(y.block _ (by omega) n2 (λhB=>by omega)).trans b⟩)
  ?_ ⟨ay,λh=>by have:=a5 _ h;omega,λh=>by have:=a5 _ h;omega,aC,az⟩).mono ?_
 ·
  rintro M d x W⟨z,n1,n2,j,b⟩bl
  have aa:w.heap.size+1<W:=(Array.getElem?_eq_some_iff.1 j).1
  have hy:=run_yield (P:=P) (args:=a1 x) j (by rw[A];exact bs x)
  rw[A]at hy
  refine⟨fn,_,assign,body,hy,?_⟩
  obtain⟨V,T⟩:=Qe (W.alloc (ob x))
  have ac:∀k,k<W.heap.size->V.heap[k]?=W.heap[k]?:=λk b=>by rw[<- T];exact gb W _ k b
  have aT:V.heap[W.heap.size]?=X (ob x):=by rw[<- T];exact em W _
  have bB:V.heap.size=W+1:=by rw[<- T];simp
  have a9:V.heap[w.heap.size+1]?=X (.loop (rec .ready Y)):=(ac _ aa).trans j
  have a6:V.heap[w.heap.size]?=X (.deferred (X [])):=(ac _ (by omega)).trans b
  have ad:=a7 _ _ _ z
  have au:I M d V:=by rw[<- T];exact H _ _ _ _ _ z (dj.alloc ad _)
  have b3:∀(W9:fb),nj M V W9/\hz V W9->nj M W W9/\hz W W9:=λW9 h=>⟨λk b=>(h.1 k b).trans (ac k (ad k b)),(by rw[<- T]at h;exact(gq W _).trans h.2)⟩
  have b0:W.heap.size≠w+1:=by omega
  have b1:w.heap.size<=W:=by omega
  have aa:w+1<V.heap.size:=by omega
  refine roundIn_of_wpIn b8 (b4 _ x W _ ?_)
  rw[T]
  refine⟨_,run_beginRound a9 (by rw[A]),?_⟩
  have bk:(V.putObj (w.heap.size+1) (.loop {rec .ready Y with state:=.busy})).heap[w.heap.size+1]?=X (.loop {rec .ready Y with state:=.busy}):=ht aa
  have bb:(V.putObj (w.heap.size+1) (.loop {rec .ready Y with state:=.busy})).heap[w.heap.size]?=X (.deferred (X [])):=(ej (by omega)).trans a6
  have aS:=a7 _ _ _ au
  have b9:=H _ _ _ _ _ au (dj.put aS (w.heap.size+1) (by omega) _ (.loop {rec .ready Y with state:=.busy}) a9 rfl)
  refine wpIn_mono (b6 _ M d x _ W b9 bl b1 ((ej b0).trans aT)) ?_
  have a2:∀(q:Option Code)(f:fb),hz (V.putObj (w.heap.size+1) (.loop {rec .ready Y with state:=.busy})) f->
   (Instr.endRound (w.heap.size+1) q).run P f=.ok (e0 q.isNone) (f.putObj (w.heap.size+1) (.loop (rec (if q.isNone then .ready else .done) q)))/\
   f.heap[w.heap.size+1]?=X (.loop {rec .ready Y with state:=.busy})/\
   (f.putObj (w.heap.size+1) (.loop (rec (if q.isNone then .ready else .done) q))).heap[w.heap.size+1]?=X (.loop (rec (if q.isNone then .ready else .done) q))/\
   (f.putObj (w.heap.size+1) (.loop (rec (if q.isNone then .ready else .done) q))).heap[w.heap.size]?=X (.deferred (X [])):=λq f i=>by
   have m:=i.same _ _ bk rfl
   have:=run_endRound (P:=P) q m
   rw[A]at this ⊢
   exact⟨this,by rw[A]at m;exact m,ht (Array.getElem?_eq_some_iff.1 m).1,(ej (by omega)).trans (i.same _ _ bb rfl)⟩
  rintro e a3 f hp
  cases e with
  |normal=>
   obtain⟨i,bc,u⟩:=hp
   obtain⟨R,m,E,L⟩:=a2 Y f i
   refine⟨_,_,R,.inl ⟨rfl,⟨H _ _ _ _ _ u (dj.put (a7 _ _ _ u) _ (by omega) _ _ m rfl),n1,n2,E,L⟩,b3 _ ⟨λk a6=>?_,?_⟩⟩⟩
   .have e1:k≠w+1:=λe=>n1 (e▸a6)
    exact((ej (by omega)).trans (bc k a6)).trans (ej (by omega))
   .refine⟨gP (gP (grownBy_putObj' V (w.heap.size+1) _).size i.size) (grownBy_putObj' f (w.heap.size+1) _).size,λk o O hc=>?_⟩
    by_cases e1:k=w+1
    .subst e1
     rw[a9]at O
     injection O with O
     subst O
     exact E
    .exact(ej (by omega)).trans (i.same k o ((ej (by omega)).trans O) hc)
  |ret=>
   obtain⟨i,u⟩:=hp
   obtain⟨R,m,E,L⟩:=a2 (X .ret) f i
   exact⟨_,_,R,.inr ⟨rfl,.ret,a4 _ _ _ _ _ _ u (dj.put (a8 _ _ _ _ u) _ (by omega) _ _ m rfl),E,L⟩⟩
  |exit id=>
   obtain⟨i,u⟩:=hp
   obtain⟨R,m,E,L⟩:=a2 (X (.exit id)) f i
   exact⟨_,_,R,.inr ⟨rfl,.exit id,a4 _ _ _ _ _ _ u (dj.put (a8 _ _ _ _ u) _ (by omega) _ _ m rfl),E,L⟩⟩
  |goto t=>
   obtain⟨i,u⟩:=hp
   obtain⟨R,m,E,L⟩:=a2 (X (.goto t)) f i
   exact⟨_,_,R,.inr ⟨rfl,.goto t,a4 _ _ _ _ _ _ u (dj.put (a8 _ _ _ _ u) _ (by omega) _ _ m rfl),E,L⟩⟩
  |panic ch=>exact hp.elim
  |outgrown=>exact hp.elim
 ·
  rintro e W2⟨⟨v,rfl⟩,(⟨M,xs,hS,z,n1,n2,j,b⟩|⟨M,d,b2,c,z,j,b⟩)⟩
  .exact⟨Y,_,by have:=run_endLoop (P:=P) j (by rw[A];simp);rw[A]at this;exact this,b7 _ M xs _ (eb _) hS (H _ _ _ _ _ z (dj.put (a7 _ _ _ z) _ (by omega) _ _ j rfl)) ((ej (by omega)).trans b)⟩
  .exact⟨X c,_,by have:=run_endLoop (P:=P) j (by rw[A];simp);rw[A]at this;exact this,bw _ c M d _ (eb _) b2 (a4 c _ _ _ _ _ z (dj.put (a8 _ _ _ _ z) _ (by omega) _ _ j rfl)) ((ej (by omega)).trans b)⟩
end
end
section
open Go.RowKit Go.Maps Go.Shelf
attribute [local go_sem] Oper.semAt_some
theorem DE:(prog.info? 134).map (λi=>(i.zero,i.size,i.bytes))=X (X (.agg #[J U 0,J U 0,J U 0,J U 0]),4,32):=by kernel_rfl
def pkCells(a:PK):List fz:=[J U a.1.1,J U a.1.2,J U a.2.1,J U a.2.2]
structure Cg(w:fb)(Bo:Nat)(M:Nat->Prop)(pre:List RK)(W:fb):Prop where
 o:∃v,Boxed W Bo 52 v/\W.ownsRow w 36 2 v pre (pre.flatMap rkCells)/\∀g,v.ownBlock=some g->¬M g
 b:Bw w W
 lt:∀k,M k->k<W/\w<=k
 box:¬M Bo
theorem Cg.stable(w:fb)(p B:Nat)(G:w<=B):io B (Cg w p):=by
 intro M s q D C h d;obtain⟨v,m,u,hn⟩:=h.o;have A:∀k,k<q.heap.size->¬M k->(∃x t,q.heap[k]?=X (e2 x t (0,0)))->C.heap[k]?=q.heap[k]?:=λk c y r=>by obtain⟨x,t,r⟩:=r;exact d.block k c y λ_ o l=>by rw[r]at l;injection l with l;subst l;rfl
 refine⟨⟨v,(A p (af m) h.box ⟨_,_,m⟩).trans m,aj u (λg f=>?_),λg f i=>?_⟩,?_,λk j=>⟨d.lt k j,?_⟩,λi=>?_⟩
 .obtain⟨E,z⟩:=aK u f;exact A g (af z) (hn g f) ⟨_,_,z⟩
 .have:=mh u g f;rcases d.new g i with c|c
  .exact hn g f c
  omega
 .have e:=h.b;exact⟨d.os.trans e.os,d.tape.trans e.tape,d.output.trans e.output,gP e.size d.size,λk j=>(d.block k (by have:=e.size;omega) (λi=>by have:=(h.lt k i).2;omega) (λy=>by omega)).trans (e.block k j)⟩
 .rcases d.new k j with c|c
  .exact(h.lt k c).2
  have:=h.b.size;omega
 rcases d.new p i with c|c
 .exact h.box c
 have:=af m;omega
theorem nP(n:Nat)(hn:3<=n)(g:Nat)(lb:Array fz)(eg:∀args w,(callFunc g args).run prog w=.ok (.enter g args) w)(O Sp:List RK->Prop)(G:List RK->RK->Prop)(hG:∀f x,G f x->f.length<100000000)(w:fb)
 (ac:jr gd (n-1) prog g lb (λx:RK=> #[recK x]) O Sp G (λ_=>False) w):
 CallsIn gd n prog 140 #[e6 Y 0 0,.func (.func g) #[] lb] w λe w'=>∃(v:fz)(t:List RK),e=e4 v/\O t/\w'.ownsRow w 36 2 v t (t.flatMap rkCells)/\Bw w w':=by
 have C:1<=n:=by omega
 refine callsIn_of_wp_marks func140 rfl trivial ?_ rfl;simp only[ntmps140,fp,e7,fx,gn,gi,eQ,ex,fr,e8,fs,ft];gi_wp2
 have bO:=Boxed.new w 52 (e6 Y 0 0);have E:Bw w (w.alloc (e2 #[e6 Y 0 0] 52)):=(er _ w).alloc (eb _) _
 refine nT rfl C (gf:=g) (lb:=lb) rfl trivial eg ac (λk d=>d.elim) E (λ_=>rfl) (Cg w w) (λ_ _ _ _=>False) (Cg.stable w _ _ E.size) (λ_ _ _ _ _ _ h _=>h) (λM s av h k d=>(h.lt k d).1) (λ_ _ _ _ h=>h.elim)
  ⟨⟨_,bO,hC _ _ _ _,λg hg=>by cases hg⟩,E,λk d=>d.elim,λh=>h⟩
  (λx N=>{tmps:= #[e6 Y 0 0,.func (.func g) #[] lb,.pointer w,undef,e6 Y 0 0,e3 (X ⟨N,0,Y⟩),.func (.func g) #[] lb,recK x,undef,undef,undef,undef,undef],defers:=[]}) (λx=>.cells (rkCells x).toArray 36) ?assign ?body ?done ?stop
 case assign=>
  intro l x W K j;obtain⟨z,A⟩:=x;unfold recK rkCells at*;dsimp only at*;gi_wp2
  exact j
 case body=>
  rintro l M f x W N h a0 ax H;have a0:=hG _ _ a0;obtain⟨v,r,p,a2⟩:=h.o;have hc:=r.cell;obtain⟨i0,hi,al,ao,au⟩:=info_parts i36;have i:=Z h.b;have u:=Z p;have HV:=Z r;have L:=Z a2;have I:=Z h;clear h p r a2;obtain⟨z,A⟩:=x;unfold recK at*;unfold rkCells at H;dsimp only at H ⊢;have a6:Hid ((f++[(z,A)]).flatMap rkCells=f.flatMap rkCells++[J U z,J U A]):=by unfold Hid;simp[rkCells]
  obtain⟨n0,n1⟩:=du H;generalize hxs:f.flatMap rkCells=xs0 at*;clear hxs;gi_wp2_with (gi_at_builtin;refine wpListIn_append_own_at _ rfl _ _ 52 rfl w 36 i0 (.agg #[J U 0,J U 0]) 2 16 underlying52 hi al ao au rfl (by decide) _ _ _ rfl (u.o.alloc _) W 1 1 [J U z,J U A] rfl rfl (cell_two_new _ _ _ _) (by simp[Value.oneCell']) (by unfold maxLen;omega) (by omega) (by have:=i.o.size;simp;omega) ?_;intro v' w1 a3 V _ a1;obtain⟨g',a7,rfl⟩:=ownsRow_succ a3;obtain⟨a4,ad,aa,a8,R⟩:=HV.o.appended (by decide) u.o i.o.size (eb _) a3 V;have ay:=a4.cell;have az:=a4.frozen;have a5:=Z a1;clear a1)
  have aC:=i.size;have y:=I.lt;have T:=I.box;have a9:∀k,M k->(w1.setCell w (e6 g' (f.length+1) a7)).heap[k]?=W.heap[k]?:=λk d=>by have C:=(y k d).1;rw[gz _ _ _ _ (λ(e:k=w)=>T (e▸d)),V.block k (by simp;omega) (λe=>L.o k e.symm d),gb _ _ _ C]
  refine⟨a8,a9,⟨⟨_,ad,?_,λq m hm=>?_⟩,i.trans R,λk d=>⟨?_,(y k d).2⟩,T⟩⟩
  .rw[fl,a6.o];exact aa
  .rcases a5.o with e|e
   .exact L q (e▸m) hm
   rw[e]at m;injection m with m
   have:=(y q hm).1;simp at m;omega
  exact Nat.lt_of_lt_of_le (y k d).1 R.size
 case done=>
  rintro D M t W hD hS h j;obtain⟨v,r,p,_⟩:=h.o;have hc:=r.cell;have u:=Z p;have i:=Z h.b;clear h p;gi_wp2
  refine⟨by simp,.inl ⟨_,_,rfl,run_takeDeferred j,?_⟩⟩;exact⟨_,results_tmp rfl _ _ _,v,t,rfl,hS,ownsRow_putObj u.o _ j rfl,i.o.trans (belowK_b (w:=w) (eb _) W D _ _ (by simp at hD;omega) j rfl rfl)⟩
 rintro D c M f W _ _ h _;exact h.elim
theorem uP(n:Nat)(hn:4<=n)(g:Nat)(lb:Array fz)(h:∀args w,(callFunc g args).run prog w=.ok (.enter g args) w)(c d:List RK->Prop)(G:List RK->RK->Prop)(i:∀f x,G f x->f.length<100000000)(w:fb)
 (m:jr gd (n-1-1) prog g lb (λx:RK=> #[recK x]) c d G (λ_=>False) w):
 hd prog 88 #[.func (.func g) #[] lb] w λe w'=>∃(v:fz)(b:List RK),e=e4 v/\c b/\w'.ownsRow w 36 2 v b (b.flatMap rkCells)/\Bw w w':=by
 have p:1<=n:=by omega
 refine(callsIn_wide (n:=n)).1 ?_;refine gO func88 rfl trivial ?_ rfl;simp only[ntmps88,fp,e7,fx,gn,gi,eQ,ex,fr,e8,fs,ft];gi_wp2_with (refine⟨trivial,?_⟩;gi_at_call 140;refine(nP (n-1) (by omega) g lb h c d G i _ m).mono ?_;rintro e w'⟨v,b,rfl,j,l,k⟩)
 go_ret;exact⟨v,b,rfl,j,l,k⟩
structure Ci(w:fb)(Bo:Nat)(M:Nat->Prop)(pre:List PK)(W:fb):Prop where
 o:∃v,Boxed W Bo 131 v/\W.ownsRow w 134 4 v pre (pre.flatMap pkCells)/\∀g,v.ownBlock=some g->¬M g
 b:Bw w W
 lt:∀k,M k->k<W/\w<=k
 box:¬M Bo
theorem Ci.stable(w:fb)(p B:Nat)(G:w<=B):io B (Ci w p):=by
 intro M s q D C h d;obtain⟨v,m,u,hn⟩:=h.o;have A:∀k,k<q.heap.size->¬M k->(∃x t,q.heap[k]?=X (e2 x t (0,0)))->C.heap[k]?=q.heap[k]?:=λk c y r=>by obtain⟨x,t,r⟩:=r;exact d.block k c y λ_ o l=>by rw[r]at l;injection l with l;subst l;rfl
 refine⟨⟨v,(A p (af m) h.box ⟨_,_,m⟩).trans m,aj u (λg f=>?_),λg f i=>?_⟩,?_,λk j=>⟨d.lt k j,?_⟩,λi=>?_⟩
 .obtain⟨E,z⟩:=aK u f;exact A g (af z) (hn g f) ⟨_,_,z⟩
 .have:=mh u g f;rcases d.new g i with c|c
  .exact hn g f c
  omega
 .have e:=h.b;exact⟨d.os.trans e.os,d.tape.trans e.tape,d.output.trans e.output,gP e.size d.size,λk j=>(d.block k (by have:=e.size;omega) (λi=>by have:=(h.lt k i).2;omega) (λy=>by omega)).trans (e.block k j)⟩
 .rcases d.new k j with c|c
  .exact(h.lt k c).2
  have:=h.b.size;omega
 rcases d.new p i with c|c
 .exact h.box c
 have:=af m;omega
theorem nN(n:Nat)(hn:3<=n)(g:Nat)(lb:Array fz)(eg:∀args w,(callFunc g args).run prog w=.ok (.enter g args) w)(T Sp:List PK->Prop)(G:List PK->PK->Prop)(hG:∀f x,G f x->f.length<100000000)(w:fb)
 (al:jr gd (n-1) prog g lb (λx:PK=> #[pairV x]) T Sp G (λ_=>False) w):
 CallsIn gd n prog 163 #[e6 Y 0 0,.func (.func g) #[] lb] w λe w'=>∃(v:fz)(t:List PK),e=e4 v/\T t/\w'.ownsRow w 134 4 v t (t.flatMap pkCells)/\Bw w w':=by
 have H:1<=n:=by omega
 refine callsIn_of_wp_marks func163 rfl trivial ?_ rfl;simp only[ntmps163,fp,e7,fx,gn,gi,eQ,ex,fr,e8,fs,ft];gi_wp2
 have bO:=Boxed.new w 131 (e6 Y 0 0);have I:Bw w (w.alloc (e2 #[e6 Y 0 0] 131)):=(er _ w).alloc (eb _) _
 refine nT rfl H (gf:=g) (lb:=lb) rfl trivial eg al (λk d=>d.elim) I (λ_=>rfl) (Ci w w) (λ_ _ _ _=>False) (Ci.stable w _ _ I.size) (λ_ _ _ _ _ _ h _=>h) (λM s ay h k d=>(h.lt k d).1) (λ_ _ _ _ h=>h.elim)
  ⟨⟨_,bO,hC _ _ _ _,λg hg=>by cases hg⟩,I,λk d=>d.elim,λh=>h⟩
  (λx N=>{tmps:= #[e6 Y 0 0,.func (.func g) #[] lb,.pointer w,undef,e6 Y 0 0,e3 (X ⟨N,0,Y⟩),.func (.func g) #[] lb,pairV x,undef,undef,undef,undef,undef],defers:=[]}) (λx=>.cells (pkCells x).toArray 134) ?assign ?body ?done ?stop
 case assign=>
  intro l x W K j;obtain⟨⟨z,A⟩,C,E⟩:=x;unfold pairV pkCells at*;dsimp only at*;gi_wp2
  exact j
 case body=>
  rintro l M f x W N h a2 az L;have a2:=hG _ _ a2;obtain⟨v,r,p,a4⟩:=h.o;have hc:=r.cell;obtain⟨i0,hi,au,av,ax⟩:=info_parts DE;have i:=Z h.b;have u:=Z p;have HV:=Z r;have R:=Z a4;have O:=Z h;clear h p r a4;obtain⟨⟨z,A⟩,C,E⟩:=x;unfold pairV at*;unfold pkCells at L;dsimp only at L ⊢;have a8:Hid ((f++[((z,A),C,E)]).flatMap pkCells=f.flatMap pkCells++[J U z,J U A,J U C,J U E]):=by unfold Hid;simp[pkCells]
  obtain⟨n0,n1,n2,n3⟩:=nL L;generalize hxs:f.flatMap pkCells=xs0 at*;clear hxs;gi_wp2_with (gi_at_builtin;refine wpListIn_append_own_at _ rfl _ _ 131 rfl w 134 i0 (.agg #[J U 0,J U 0,J U 0,J U 0]) 4 32 underlying131 hi au av ax rfl (by decide) _ _ _ rfl (u.o.alloc _) W 1 1 [J U z,J U A,J U C,J U E] rfl rfl (nK _ _ _ _ _ _) (by simp[Value.oneCell']) (by unfold maxLen;omega) (by omega) (by have:=i.o.size;simp;omega) ?_;intro v' w1 a5 a1 _ a3;obtain⟨g',a9,rfl⟩:=ownsRow_succ a5;obtain⟨a6,ao,ad,aa,V⟩:=HV.o.appended (by decide) u.o i.o.size (eb _) a5 a1;have aC:=a6.cell;have aS:=a6.frozen;have a7:=Z a3;clear a3)
  have aT:=i.size;have y:=O.lt;have a0:=O.box;have ac:∀k,M k->(w1.setCell w (e6 g' (f.length+1) a9)).heap[k]?=W.heap[k]?:=λk d=>by have H:=(y k d).1;rw[gz _ _ _ _ (λ(e:k=w)=>a0 (e▸d)),a1.block k (by simp;omega) (λe=>R.o k e.symm d),gb _ _ _ H]
  refine⟨aa,ac,⟨⟨_,ao,?_,λq m hm=>?_⟩,i.trans V,λk d=>⟨?_,(y k d).2⟩,a0⟩⟩
  .rw[fl,a8.o];exact ad
  .rcases a7.o with e|e
   .exact R q (e▸m) hm
   rw[e]at m;injection m with m
   have:=(y q hm).1;simp at m;omega
  exact Nat.lt_of_lt_of_le (y k d).1 V.size
 case done=>
  rintro D M t W hD hS h j;obtain⟨v,r,p,_⟩:=h.o;have hc:=r.cell;have u:=Z p;have i:=Z h.b;clear h p;gi_wp2
  refine⟨by simp,.inl ⟨_,_,rfl,run_takeDeferred j,?_⟩⟩;exact⟨_,results_tmp rfl _ _ _,v,t,rfl,hS,ownsRow_putObj u.o _ j rfl,i.o.trans (belowK_b (w:=w) (eb _) W D _ _ (by simp at hD;omega) j rfl rfl)⟩
 rintro D c M f W _ _ h _;exact h.elim
theorem sV(n:Nat)(hn:4<=n)(g:Nat)(lb:Array fz)(h:∀args w,(callFunc g args).run prog w=.ok (.enter g args) w)(c d:List PK->Prop)(G:List PK->PK->Prop)(i:∀f x,G f x->f.length<100000000)(w:fb)
 (m:jr gd (n-1-1) prog g lb (λx:PK=> #[pairV x]) c d G (λ_=>False) w):
 hd prog 119 #[.func (.func g) #[] lb] w λe w'=>∃(v:fz)(b:List PK),e=e4 v/\c b/\w'.ownsRow w 134 4 v b (b.flatMap pkCells)/\Bw w w':=by
 have p:1<=n:=by omega
 refine(callsIn_wide (n:=n)).1 ?_;refine gO func119 rfl trivial ?_ rfl;simp only[ntmps119,fp,e7,fx,gn,gi,eQ,ex,fr,e8,fs,ft];gi_wp2_with (refine⟨trivial,?_⟩;gi_at_call 163;refine(nN (n-1) (by omega) g lb h c d G i _ m).mono ?_;rintro e w'⟨v,b,rfl,j,l,k⟩)
 go_ret;exact⟨v,b,rfl,j,l,k⟩
end
section
open Go.RowKit Go.Maps Go.Shelf Go.Lib Go.Sort
section
variable {α:Type} [Inhabited α]
theorem mJ(enc:α->List fz)(k:Nat)(m:0<k)(d:∀x,(enc x).length=k)(b:List α):flatK enc k b.toArray=(b.flatMap enc).toArray:=by
 have p:(b.flatMap enc).length=b*k:=by
  induction b with
  |nil=>simp
  |cons a l ih=>rw[List.flatMap_cons,fl,d,ih,e7,Nat.add_mul];omega
 apply Array.ext
 .simp[p]
 intro t f v;have q:t<b.toArray.size*k:=by simpa using f
 have r:t<b*k:=by simpa using q
 have g:=get_flatK enc k b.toArray t q;rw[getElem!_pos (flatK enc k b.toArray) t f]at g;rw[g];have h:t/k<b:=(Nat.div_lt_iff_lt_mul m).2 r;have i:t%k<k:=Nat.mod_lt _ m;have e:=cE enc k d b (t/k) h (t%k) i;rw[Nat.div_add_mod' t k]at e;have s:b.toArray[t/k]! =b[t/k]:=by rw[getElem!_pos b.toArray (t/k) (by simpa using h)];simp
 rw[s];have j:t%k<(enc b[t/k]).length:=by rw[d];exact i
 rw[getElem!_pos (enc b[t/k]) (t%k) j];have c:(b.flatMap enc)[t]?=X ((enc b[t/k])[t%k]):=by rw[e];exact gQ j
 have u:t<(b.flatMap enc).length:=by rw[p];exact r
 rw[gQ u]at c;injection c with c
 simpa using c.symm
theorem dg{lo e k g c n:Nat}:∀(b:List fz)(s:Nat)(w:fb)(xs:List fz),w.ownsRow lo e k (e6 g n c) n xs->s+b<=xs->
 (w.setCells g s b).ownsRow lo e k (e6 g n c) n (xs.take s++b++xs.drop (s+b))/\aF g w (w.setCells g s b)
 |[],s,w,xs,h,hs=>⟨by simpa[World.setCells]using h,aF.refl _ _⟩
 |v::b,s,w,xs,h,hs=>by
  have m:s+1+b<=xs:=by simp at hs;omega
  have j:=(h.stored s v).1
  obtain⟨d,l⟩:=dg b (s+1) _ _ j (by simpa using m)
  refine⟨?_,((aF.refl g w).setCell s v).trans l⟩
  have f:(xs.set s v).take (s+1)=xs.take s++[v]:=by
   rw[gs (by simp;omega)]
   simp[List.take_set_of_le]
  have i:(xs.set s v).drop (s+1+b)=xs.drop (s+(b.length+1)):=by
   rw[List.drop_set_of_lt (by omega)]
   congr 1
   omega
  rw[f,i]at d
  simpa[World.setCells]using d
theorem iu{lo e k g d:Nat}(enc:α->List fz)(l:0<k)(i:∀x,(enc x).length=k){w:fb}{b:List α}(h:w.ownsRow lo e k (e6 g b d) b (b.flatMap enc)):HoldsK enc k w g 0 b.toArray:=by
 intro j c;rw[mJ enc k l i]at c ⊢;have f:j<(b.flatMap enc).length:=by simpa using c
 rw[Nat.zero_add];refine⟨?_,h.frozenAt j⟩;rw[h.cellAt j (by have:=h.1;omega),getElem!_pos _ j c];rw[gQ f];simp
theorem jq{lo e k g j:Nat}(enc:α->List fz)(t:0<k)(m:∀x,(enc x).length=k){w:fb}{b ys:List α}(p:ys.length=b)(h:w.ownsRow lo e k (e6 g b j) b (b.flatMap enc))(n:Nat)(c:Array Obj):
 (sortWorldK enc k w g 0 n ys.toArray c).ownsRow lo e k (e6 g b j) b (ys.flatMap enc)/\(sortWorldK enc k w g 0 n ys.toArray c).os=w.os/\(sortWorldK enc k w g 0 n ys.toArray c).tape=w.tape/\(sortWorldK enc k w g 0 n ys.toArray c).output=w.output/\
  w<=(sortWorldK enc k w g 0 n ys.toArray c).heap.size/\∀q,q<w.heap.size->q≠g->(sortWorldK enc k w g 0 n ys.toArray c).heap[q]?=w.heap[q]?:=by
 have A:=iu enc t m h;have i:∀zs:List α,(zs.flatMap enc).length=zs*k:=λzs=>by
  induction zs with
  |nil=>simp
  |cons a l ih=>rw[List.flatMap_cons,fl,m,ih,e7,Nat.add_mul];omega
 have v:sortWorldK enc k w g 0 n ys.toArray c=Sort.grow ((w.drewN n).setCells g 0 (ys.flatMap enc)) c:=by unfold sortWorldK putRowK;rw[mJ enc k t m];have:=Lib.putRow_eq_setCells id w g 0 (flatK enc k b.toArray) (ys.flatMap enc) n A (by rw[i,p,size_flatK];simp);rw[this];simp
 have y:(w.drewN n).ownsRow lo e k (e6 g b j) b (b.flatMap enc):=h;obtain⟨r,f⟩:=dg (ys.flatMap enc) 0 (w.drewN n) (b.flatMap enc) y (by rw[i,i,p];omega);have z:(ys.flatMap enc).length=(b.flatMap enc).length:=by rw[i,i,p]
 rw[List.take_zero,fs,Nat.zero_add,z,List.drop_length,List.append_nil]at r;rw[v];have u:((w.drewN n).setCells g 0 (ys.flatMap enc)).heap.size=w:=f.size;have s:∀q,q<w.heap.size->(Sort.grow ((w.drewN n).setCells g 0 (ys.flatMap enc)) c).heap[q]?=((w.drewN n).setCells g 0 (ys.flatMap enc)).heap[q]?:=λq d=>by show(((w.drewN n).setCells g 0 (ys.flatMap enc)).heap++c)[q]?=_;rw[Array.getElem?_append_left (by rw[u];exact d)]
 have C:=(h.lt g (by simp[gx])).2;refine⟨aj r (λq d=>?_),f.os,f.tape,f.output,by rw[Sort.size_grow,u];omega,λq d D=>(s q d).trans (f.block q D)⟩;simp[gx]at d;subst d;exact s _ C
end
theorem pu{K:Type}{lt:K->K->Bool}(T:Tot lt):Sort.SWO lt:=by
 refine⟨T.irr,T.tr,λx y z d b=>?_⟩;cases h3:lt x z
 .rfl
 exfalso;by_cases e:y=x
 .subst e;rw[h3]at b;cases b
 rcases T.tot y x e with c|c
 .have:=T.tr _ _ _ c h3;rw[this]at b;cases b
 rw[c]at d;cases d
def de{K:Type}(lt:K->K->Bool)(b:List K):List K:=b.mergeSort λx y=> !(lt y x)
theorem dp{K:Type}(lt:K->K->Bool)(b:List K):(de lt b).Perm b:=List.mergeSort_perm _ _
theorem gc{K:Type}{lt:K->K->Bool}(T:Tot lt)(d:List K):(de lt d).Pairwise λa b=>(!(lt b a))=true:=by
 refine List.pairwise_mergeSort (le:=λx y=> !(lt y x)) (λa b c e f=>?_) (λa b=>?_) d
 .simp only[fy]at*;exact(pu T).ntrans _ _ _ f e
 simp only[Bool.or_eq_true,fy];cases h:lt b a
 .exact .inl rfl
 exact .inr (T.asym h)
theorem cB{K:Type}{lt:K->K->Bool}(T:Tot lt){c ys:List K}(g:c.Perm ys)(i:ys.Pairwise λa b=>lt a b=true):de lt c=ys:=by
 refine((dp lt c).trans g).eq_of_pairwise (λa b _ _ d f=>?_) (gc T c) (i.imp λ{a b}h=>by simp[T.asym h]);simp only[fy]at d f;by_cases e:a=b
 .exact e
 rcases T.tot a b e with h|h
 .rw[f]at h;cases h
 rw[d]at h;cases h
theorem rv{K:Type}{lt:K->K->Bool}(T:Tot lt){c ys:List K}(g:c.Perm ys):de lt c=de lt ys:=by
 refine((dp lt c).trans (g.trans (dp lt ys).symm)).eq_of_pairwise (λa b _ _ d f=>?_) (gc T c) (gc T ys);simp only[fy]at d f;by_cases e:a=b
 .exact e
 rcases T.tot a b e with h|h
 .rw[f]at h;cases h
 rw[d]at h;cases h
theorem iw:ltOf bI=ltRK:=by
 funext a b
 unfold ltOf;rw[Bool.eq_iff_iff,decide_eq_true_eq];exact eZ a b
theorem p6:ltOf oU=ltPK:=by
 funext a b
 unfold ltOf;rw[Bool.eq_iff_iff,decide_eq_true_eq];exact xR a b
theorem ro(lo:Nat)(w:fb)(v:fz)(b:List RK)(h:w.ownsRow lo 36 2 v b (b.flatMap rkCells))(hn:b.length<=1000000):
 hd prog 80 #[v,.func (.func 49) #[] #[]] w λe w'=>e=e4 (.tuple #[])/\w'.ownsRow lo 36 2 v b ((de ltRK b).flatMap rkCells)/\w'.os=w.os/\w'.tape=w.tape/\w'.output=w.output/\w.heap.size<=w'/\∀q,q<w.heap.size->v.ownBlock≠X q->w'.heap[q]?=w.heap[q]?:=by
 rcases h.2 with⟨rfl,z⟩|⟨g,u,H,rfl,_⟩
 .have G:b=[]:=he z;subst G;refine(AnyF.slices_SortFunc_none vq Y 0 (.func (.func 49) #[] #[]) w).mono ?_;rintro e w'⟨rfl,rfl⟩;exact⟨rfl,by simpa[de]using h,rfl,rfl,rfl,eb _,λ_ _ _=>rfl⟩
 have C:=(h.lt g (by simp[gx])).2;have A:=iu rkCells (by decide) (λ_=>rfl) h;have:=AnyQ.slices_SortFunc_total vq 2 Tryz.isAgg36 sizeOf36 rkCells (λ_=>rfl) (λx v i=>by
  simp only[rkCells,List.mem_cons,List.not_mem_nil,or_false]at i;rcases i with rfl|rfl<;>rfl) bI (by rw[iw];exact pu aY) 49 #[] g 0 u b.toArray w (enters_of func49 (by kernel_rfl) rfl)
  (λm j I L x y=>(fj x y _).mono λe w' f=>⟨f.1,f.2⟩) A C (by simp;omega) (λx y c d=>by
   rw[iw]at c d;by_cases e:x=y
   .exact e
   rcases aY.tot x y e with h|h
   .rw[c]at h;cases h
   rw[d]at h;cases h)
 refine(this).mono ?_;rintro e w'⟨rfl,n,j,rfl⟩;rw[iw];obtain⟨k,l,p,r,s,t⟩:=jq (ys:=de ltRK b) rkCells (by decide) (λ_=>rfl) (dp ltRK b).length_eq h n j;exact⟨rfl,k,l,p,r,s,λq E D=>t q E (λe=>D (by rw[e];simp[gx]))⟩
theorem j9(n:Nat)(hn:4<=n)(g:Nat)(lb:Array fz)(H:∀args w,(callFunc g args).run prog w=.ok (.enter g args) w)(c:List RK)(M:c.length<=1000000)(E:List RK->Prop)(G:List RK->RK->Prop)(I:∀u x,G u x->u.length<100000000)(w:fb)
 (t:jr gd (n-1-1) prog g lb (λx:RK=> #[recK x]) (λh=>h.Perm c) E G (λ_=>False) w):
 hd prog 47 #[.func (.func g) #[] lb,.func (.func 49) #[] #[]] w λe w'=>∃v,e=e4 v/\w'.ownsRow w 36 2 v c ((de ltRK c).flatMap rkCells)/\Bw w w':=by
 have z:=Z (uP n hn g lb H _ _ _ I _ t);clear t;go_enter func47,ntmps47;go_wp2_with (go_at_call 88;(refine gy z.o ?_;rintro e w1⟨v,h,rfl,f,d,s⟩;have D:=Z (ro w w1 v h d (by rw[f.length_eq];exact M));have i:=Z f;have b:=Z s;have C:=Z d;clear f d s))
 go_at_call 80;refine D.mono ?_;rintro e N⟨rfl,j,l,m,p,q,r⟩;have A:=Z j;have y:Hid (Bw w N):=⟨l.trans b.o.os,m.trans b.o.tape,p.trans b.o.output,gP b.o.size q,λk L=>(r k (by have:=b.o.size;omega) (λe=>by have:=(C.o.lt k e).1;omega)).trans (b.o.block k L)⟩;clear j l m p q r;go_wp2;go_ret;refine⟨v,rfl,?_,y.o⟩;have:=A.o;rw[i.o.length_eq,rv aY i.o]at this;exact this
theorem wE(lo:Nat)(w:fb)(v:fz)(b:List PK)(h:w.ownsRow lo 134 4 v b (b.flatMap pkCells))(hn:b.length<=1000000):
 hd prog 120 #[v,.func (.func 67) #[] #[]] w λe w'=>e=e4 (.tuple #[])/\w'.ownsRow lo 134 4 v b ((de ltPK b).flatMap pkCells)/\w'.os=w.os/\w'.tape=w.tape/\w'.output=w.output/\w.heap.size<=w'/\∀q,q<w.heap.size->v.ownBlock≠X q->w'.heap[q]?=w.heap[q]?:=by
 rcases h.2 with⟨rfl,z⟩|⟨g,u,H,rfl,_⟩
 .have G:b=[]:=he z;subst G;refine(AnyF.slices_SortFunc_none ru Y 0 (.func (.func 67) #[] #[]) w).mono ?_;rintro e w'⟨rfl,rfl⟩;exact⟨rfl,by simpa[de]using h,rfl,rfl,rfl,eb _,λ_ _ _=>rfl⟩
 have C:=(h.lt g (by simp[gx])).2;have A:=iu pkCells (by decide) (λ_=>rfl) h;have:=AnyQ.slices_SortFunc_total ru 4 Tryz.isAgg134 sizeOf134 pkCells (λ_=>rfl) (λx v i=>by
  simp only[pkCells,List.mem_cons,List.not_mem_nil,or_false]at i;rcases i with rfl|rfl|rfl|rfl<;>rfl) oU (by rw[p6];exact pu dQ) 67 #[] g 0 u b.toArray w (enters_of func67 (by kernel_rfl) rfl)
  (λm j I L x y=>(lq x y _).mono λe w' f=>⟨f.1,f.2⟩) A C (by simp;omega) (λx y c d=>by
   rw[p6]at c d;by_cases e:x=y
   .exact e
   rcases dQ.tot x y e with h|h
   .rw[c]at h;cases h
   rw[d]at h;cases h)
 refine(this).mono ?_;rintro e w'⟨rfl,n,j,rfl⟩;rw[p6];obtain⟨k,l,p,r,s,t⟩:=jq (ys:=de ltPK b) pkCells (by decide) (λ_=>rfl) (dp ltPK b).length_eq h n j;exact⟨rfl,k,l,p,r,s,λq E D=>t q E (λe=>D (by rw[e];simp[gx]))⟩
theorem wF(n:Nat)(hn:4<=n)(g:Nat)(lb:Array fz)(H:∀args w,(callFunc g args).run prog w=.ok (.enter g args) w)(c:List PK)(M:c.length<=1000000)(E:List PK->Prop)(G:List PK->PK->Prop)(I:∀u x,G u x->u.length<100000000)(w:fb)
 (t:jr gd (n-1-1) prog g lb (λx:PK=> #[pairV x]) (λh=>h.Perm c) E G (λ_=>False) w):
 hd prog 65 #[.func (.func g) #[] lb,.func (.func 67) #[] #[]] w λe w'=>∃v,e=e4 v/\w'.ownsRow w 134 4 v c ((de ltPK c).flatMap pkCells)/\Bw w w':=by
 have z:=Z (sV n hn g lb H _ _ _ I _ t);clear t;go_enter func65,ntmps65;go_wp2_with (go_at_call 119;(refine gy z.o ?_;rintro e w1⟨v,h,rfl,f,d,s⟩;have D:=Z (wE w w1 v h d (by rw[f.length_eq];exact M));have i:=Z f;have b:=Z s;have C:=Z d;clear f d s))
 go_at_call 120;refine D.mono ?_;rintro e N⟨rfl,j,l,m,p,q,r⟩;have A:=Z j;have y:Hid (Bw w N):=⟨l.trans b.o.os,m.trans b.o.tape,p.trans b.o.output,gP b.o.size q,λk L=>(r k (by have:=b.o.size;omega) (λe=>by have:=(C.o.lt k e).1;omega)).trans (b.o.block k L)⟩;clear j l m p q r;go_wp2;go_ret;refine⟨v,rfl,?_,y.o⟩;have:=A.o;rw[i.o.length_eq,rv dQ i.o]at this;exact this
end
section
open Go.RowKit Go.Maps Go.Shelf
def jV(lo b:Nat)(w:fb)(v:fz)(l:List PK):Prop:=aL lo b w v l (l.flatMap pkCells)
theorem jV.kept{lo b:Nat}{w w':fb}{v:fz}{l:List PK}(h:jV lo b w v l)(k:js lo b w w'):jV lo b w' v l:=aL.kept h k
theorem jV.one{lo g:Nat}{w:fb}{v:fz}{l:List PK}(h:jV lo g w v l)(i:Nat)(d:i<l):
 ∃b c f,v=e6 (X ⟨b,c,Y⟩) l f/\lo<=b/\b<g/\w.cell? ⟨b,c+i*4,Y⟩=X (J U l[i].1.1)/\w.cell? ⟨b,c+i*4+1,Y⟩=X (J U l[i].1.2)/\
  w.cell? ⟨b,c+i*4+2,Y⟩=X (J U l[i].2.1)/\w.cell? ⟨b,c+i*4+3,Y⟩=X (J U l[i].2.2):=by
 obtain⟨a,f,x,h⟩:=h;have u:l.flatMap pkCells≠[]:=by
  cases l with
  |nil=>simp at d
  |cons s l=>simp[pkCells]
 obtain⟨b,c,t,q,r,e⟩:=h u;subst t;have j:=cE pkCells 4 (λ_=>rfl) l i d 0 (by omega);have k:=cE pkCells 4 (λ_=>rfl) l i d 1 (by omega);have m:=cE pkCells 4 (λ_=>rfl) l i d 2 (by omega);have p:=cE pkCells 4 (λ_=>rfl) l i d 3 (by omega);exact⟨b,c,f,x,q,r,e _ _ j,by rw[hv];exact e _ _ k,by rw[hv];exact e _ _ m,by rw[hv];exact e _ _ p⟩
theorem nw(u v:fz)(l m:List PK)(w:fb)(t:jV 0 w w u l)(x:jV 0 w w v m)(hl:l.length<=1000000)(hm:m.length<=1000000):
 hd prog 14 #[u,v] w λe w'=>e=e4 (e0 (decide (l=m)))/\Bw w w':=by
 have M:=Z t;have N:=Z x;obtain⟨a,c,rfl,_⟩:=t;obtain⟨a',c',rfl,_⟩:=x;by_cases hlm:l.length=m;rotate_left
 .have a0:((l.length:Int)!=(m.length:Int))=true:=by simp;omega
  go_enter func14,ntmps14;go_wp2_with fail;go_ret;exact⟨am (by symm;exact decide_eq_false (λh=>hlm (by rw[h]))),er _ _⟩
 have a0:((l.length:Int)!=(m.length:Int))=false:=by simp;omega
 have a9:m.length<=l:=by omega
 have a8:l.length<=m:=by omega
 have a1:=Z hlm;clear hlm;go_enter func14,ntmps14;go_wp2_with fail;go_loopw [5] (λi wr=>∃k:Nat,k<=l/\i=J U k/\Hid (l.take k=m.take k)/\Bw w wr) (λi _=>l-(intOf i).toNat)
 case atStart=>exact⟨0,Nat.zero_le _,rfl,rfl,er _ _⟩
 obtain⟨k,hk,rfl,j,d⟩:=hrel;by_cases hlt:k<l;rotate_left
 .have I:Hid (l=m):=by have:=j.o;rw[hw (by omega),hw (by omega)]at this;exact this
  go_wp2_with fail;go_ret;exact⟨am (by symm;exact decide_eq_true I.o),d⟩
 have s:k<m:=by omega
 obtain⟨b,aa,a2,g,_,a4,O,c1,c2,R⟩:=(jV.kept M.o (aW d (eb _))).one k hlt;cases g;obtain⟨b',ac,a3,g,_,a5,T,V,W,d3⟩:=(jV.kept N.o (aW d (eb _))).one k s;cases g;have a7:(k:Int)<(m.length:Int):=by omega
 have r:Hid (l.take (k+1)=l.take k++[l[k]]/\m.take (k+1)=m.take k++[m[k]]):=⟨gs hlt,gs s⟩;have L:Hid (l=m->l[k]=m[k]):=λh=>by subst h;rfl
 generalize l[k]=p at*;generalize m[k]=q at*;obtain⟨⟨y,z⟩,A,C⟩:=p;obtain⟨⟨D,E⟩,G,H⟩:=q;dsimp only at O c1 c2 R T V W d3;have a6:b<wr:=by have:=d.size;omega
 by_cases hpq:((y,z),A,C)=((D,E),G,H)
 .cases hpq;go_wp2_with fail;go_region;go_wp2_with fail;go_roundw;exact⟨k+1,by omega,by go_num,by unfold Hid;rw[r.o.1,r.o.2,j.o],d.drew⟩;simp[intOf];omega
 have f:Hid (l≠m):=λh=>hpq (L h);by_cases h1:y=D;rotate_left
 .clear hpq;go_wp2_with fail;go_region;go_wp2_with fail;go_ret;exact⟨am (by symm;exact decide_eq_false f.o),d.drew⟩
 subst h1;by_cases h2:z=E;rotate_left
 .clear hpq;go_wp2_with fail;go_region;go_wp2_with fail;go_ret;exact⟨am (by symm;exact decide_eq_false f.o),d.drew⟩
 subst h2;by_cases h3:A=G
 .subst h3;have h4:¬C=H:=λh=>hpq (by rw[h]);clear hpq;go_wp2_with fail;go_region;go_wp2_with fail;go_ret;exact⟨am (by symm;exact decide_eq_false f.o),d.drew⟩
 clear hpq;go_wp2_with fail;go_region;go_wp2_with fail;go_ret;exact⟨am (by symm;exact decide_eq_false f.o),d.drew⟩
end
end Go.Proofs.YtjcimanddakkaaaGreatDoor
