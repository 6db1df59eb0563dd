/- Lemmas. -/
import Derived.Test.YtjcimanddakkaaaGreatDoorCQ19
set_option maxRecDepth 100000
set_option maxHeartbeats 8000000
namespace Go.Proofs.YtjcimanddakkaaaGreatDoor
open Go.Obj renaming cells→dx
open Go.Value renaming int→J,slice→dz,bool→e5,pointer→e6
open Go.IntKind renaming u8→dy,i64→U
open _root_.Option renaming none→Y,some→X
open Go.Ending renaming returned→e4
open Go.Lib renaming hid→Z
open Tryz
open Go.Calls renaming mono→eg
open _root_.Nat renaming le_refl→ej,le_trans→ex,zero_le→eQ
open _root_.List renaming take_of_length_le→em,getElem_mem→er,length_take→e7,length_append→e8,take_succ_eq_append_getElem→e9,map_append→fp,filter_append→fr,mem_append→fs,flatMap_append→fz,mem_singleton→gb
open Go.RowKit.Below renaming refl→es,heap_alloc→fn
open Go.World renaming ownsRow_nil→fl,alloc_heap_new→fy
open Go renaming World→ft,Value→fx
section
open Go.RowKit Go.Maps Go.Shelf
attribute [local go_sem] Oper.semAt_some
theorem kW(k l:UInt8)(x:fx)(b:List af)(w:ft)(h:ag 0 w.heap.size w x b):∃a d e,w.alloc (dx #[J dy k.toNat,J dy l.toNat,x] 62)=a/\x=dz d b.length e/\Bw w a/\a.heap.size=w.heap.size+1/\
 ∀W,Bw a W->(W.cell? ⟨w.heap.size,0,Y⟩=X (J dy k.toNat)/\W.cell? ⟨w.heap.size,1,Y⟩=X (J dy l.toNat)/\W.cell? ⟨w.heap.size,2,Y⟩=X x)/\ag 0 w.heap.size W x b:=by
 obtain⟨d,e,i⟩:=h.shape;have g:Bw w (w.alloc (dx #[J dy k.toNat,J dy l.toNat,x] 62)):=(es _ w).alloc (ej _) _;have j:(w.alloc (dx #[J dy k.toNat,J dy l.toNat,x] 62)).heap.size=w.heap.size+1:=by simp
 refine⟨_,d,e,rfl,i,g,j,λW f=>⟨?_,h.kept (aY (btr g f (by omega)) (ej _))⟩⟩;have c:W.heap[w.heap.size]?=X (dx #[J dy k.toNat,J dy l.toNat,x] 62 (0,0)):=(f.block _ (by omega)).trans (fy w _);exact⟨by rw[aa c];rfl,by rw[aa c];rfl,by rw[aa c];rfl⟩
theorem oq(k l:UInt8)(x:fx)(a:List af)(w:ft)(hs:ag 0 w.heap.size w x a)(a2:bo a):
 Calls prog 149 #[.agg #[J dy k.toNat,J dy l.toNat,x]] w λe w'=>∃v,e=e4 v/\w'.ownsRow w.heap.size 9 1 v (booksR a).length ((booksR a).map λs=>S s)/\Bw w w':=by
 obtain⟨u,xa,xc,aS,rfl,a7,ac,a3⟩:=kW k l x a w hs;have HX:=Z a3;have a5:=Z a7;have P:=Z ac;have a6:=Z a2;have ao:=Z (λq=>dl a q a2);obtain⟨n,hn⟩:=Qe a.length;have HN:=Z hn;have b7:n<=1000000:=hn▸a2.1;rw[hn]at a3 aS HX ⊢;clear hs a2 a3 a7 ac hn;go_enter func149,ntmps149;go_wp2_with fail;go_loopw [3,4] (λv i wr=>∃(q:Nat)(o:Option Addr)(p:Nat),q<=n/\v=.slice o (booksR (a.take q)).length p/\i=J U q/\Hid (wr.ownsRow u.heap.size 9 1 (.slice o (booksR (a.take q)).length p) (booksR (a.take q)).length ((booksR (a.take q)).map λs=>S s))/\Hid (Bw u wr)) (λ_ i _=>n-(intOf i).toNat)
 exact⟨0,Y,0,eQ _,rfl,rfl,fl _ _ _ _,es _ _⟩;obtain⟨q,o,p,hq,rfl,rfl,A,f⟩:=hrel;obtain⟨⟨_,_,b2⟩,a8⟩:=HX wr f.o;by_cases hlt:q<n;rotate_left
 .have e:a.take q=a:=em (by rw[HN.o];omega);rw[e]at A;rw[e];clear a8;go_wp2_with fail;go_ret;exact⟨_,rfl,aD A.o (by have:=P.o;omega),btr a5.o f.o a5.o.size⟩
 have R:q<a.length:=by rw[HN.o];exact hlt
 have i1:(q:Int)<n:=by omega
 have av:Hid (booksR (a.take (q+1))=booksR (a.take q)++bookS a[q].tag a[q].subs):=by unfold Hid booksR;rw[e9 R,fz];simp[ic]
 have b5:=ao q;have b8:a[q].subs.length<=1000000:=ex (ci _) (a6.2 _ (er R));have ax:Hid (∀s∈a[q].subs,s.text.length<=1000000):=λs hs=>iR (a6.2 _ (er R)) hs;have K:Hid (∃B G,xa=some ⟨B,G,Y⟩/\∃E Q,∀W,Bw u W->W.cell? ⟨w.heap.size,2,Y⟩=some (dz xa n xc)/\W.cell? ⟨B,G+q*4,Y⟩=some (S a[q].tag)/\W.cell? ⟨B,G+q*4+3,Y⟩=some (.slice E a[q].subs.length Q)/\aw 0 w.heap.size W (.slice E a[q].subs.length Q) a[q].subs):=by
  obtain⟨B,G,b4,d,hv,_,b6,c0,_,_,c3,F⟩:=(HX u (es _ _)).2.field q R;obtain⟨E,Q,rfl,_⟩:=id F;injection hv with e1 e2 e3
  refine⟨B,G,e1,E,Q,λW D=>⟨(HX.o W D).1.2.2,?_,?_,aw.kept F (aY D (by have:=P.o;omega))⟩⟩
  .rw[(an D).1 B _ (by have:=P.o;omega)];exact c0
  rw[(an D).1 B _ (by have:=P.o;omega)];exact c3
 obtain⟨B,G,rfl,E,Q,hf⟩:=K.o;have K:=Z hf;obtain⟨_,t0,t3,_⟩:=hf wr f.o;generalize booksR (a.take q)=L at*;generalize a[q].tag=T at*;generalize a[q].subs=ss at*;clear a8 hf R;go_wp2_with fail;go_loopw [3,5] (λv i wr=>∃(j:Nat)(o:Option Addr)(p:Nat),j<=ss.length/\v=.slice o (L++bookS T (ss.take j)).length p/\i=J U j/\Hid (wr.ownsRow u.heap.size 9 1 (.slice o (L++bookS T (ss.take j)).length p) (L++bookS T (ss.take j)).length ((L++bookS T (ss.take j)).map λs=>S s))/\Hid (Bw u wr)) (λ_ i _=>ss.length-(intOf i).toNat)
 case atStart=>
  have e:L++bookS T (ss.take 0)=L:=by unfold bookS;simp
  exact⟨0,o,p,eQ _,by rw[e],rfl,by rw[e];exact A.o,f.o⟩
 obtain⟨j,o,p,hj,rfl,rfl,A,f⟩:=hrel;obtain⟨b2,t0,t3,F⟩:=K wr f.o;by_cases hgo:j<ss.length/\T=cZ;rotate_left
 .have HE:Hid (booksR (a.take (q+1))=L++bookS T (ss.take j)):=by
   unfold Hid;rw[av.o];congr 1
   by_cases y:T=cZ
   .rw[em (by have:¬j<ss.length:=λh=>hgo ⟨h,y⟩;omega)]
   unfold bookS;rw[if_neg y,if_neg y]
  have hx:((j:Int)<ss.length/\(T==[48,50,48])=false)∨¬(j:Int)<ss.length:=by
   by_cases h:j<ss.length
   .exact .inl ⟨by omega,by simpa[cZ]usingλy=>hgo ⟨h,y⟩⟩
   exact .inr (by omega)
  generalize L++bookS T (ss.take j)=M at*;clear hgo F;rcases hx with⟨h1,h2⟩|h1
  all_goals
   go_wp2_with fail
   go_roundw
   case rel=>exact⟨q+1,o,p,by omega,by rw[HE.o],by go_num,by unfold Hid;rw[HE.o];exact A.o,f.o⟩
   case measure=>simp[intOf];omega
 obtain⟨a1,y⟩:=hgo;have i2:(j:Int)<ss.length:=by omega
 have i3:(T==[48,50,48])=true:=by rw[y];rfl
 have b:Hid (L++bookS T (ss.take (j+1))=(L++bookS T (ss.take j))++(if ss[j].code=97 then(isbnR ss[j].text).toList else[])):=by unfold Hid;rw[gr T ss j a1,List.append_assoc];simp[y]
 have a9:=fL T (ss.take j);rw[e7]at a9;have au:Hid ((L++bookS T (ss.take j)).length<=1000001000000):=by unfold Hid;rw[e8];omega
 have z:=Z (λW=>vw ss[j].text W (ax _ (er a1)));have a0:Hid (∃m H,E=some ⟨m,H,Y⟩/\∀W,Bw u W->W.cell? ⟨m,H+j*2,Y⟩=some (J dy ss[j].code.toNat)/\W.cell? ⟨m,H+j*2+1,Y⟩=some (S ss[j].text)):=by
  obtain⟨m,H,c,hv,_,V,s0,s1⟩:=F.sub j a1;injection hv with e1 e2 e3
  have V:m<u.heap.size:=by have:=P.o;omega
  exact⟨m,H,e1,λW D=>by rw[(an D).1 m _ V,(an D).1 m _ V,<- (an f.o).1 m _ V,<- (an f.o).1 m _ V];exact⟨s0,s1⟩⟩
 obtain⟨m,H,rfl,a4⟩:=a0.o;have a0:=Z a4;obtain⟨s0,s1⟩:=a4 wr f.o;generalize L++bookS T (ss.take j)=M at*;obtain⟨r,hr⟩:=Qe (isbnR ss[j].text);rw[hr]at z b;generalize ss[j].text=X at*;generalize ss[j].code=C at*;clear y hr a4 F a9 a1;have HG:Hid (∀W,Bw wr W->Bw u W):=λW h=>btr f.o h f.size;rcases r with _|N
 .have b:Hid (L++bookS T (ss.take (j+1))=M):=b.o.trans (by simp);have z:Hid (∀W,Calls prog 96 #[S X] W λe w'=>e=e4 (.tuple #[S [],e5 false])/\Bw W w'):=z.o;go_wp2_with (go_at_call 96;(refine eg (z.o _) ?_;rintro e I⟨rfl,g⟩;have t:=Z (HG.o _ g);have O:=Z (aE A.o g);clear g))
  go_roundw;exact⟨j+1,o,p,by omega,by rw[b.o],by go_num,by unfold Hid;rw[b.o];exact O.o,t.o⟩;simp[intOf];omega
 have z:Hid (∀W,Calls prog 96 #[S X] W λe w'=>e=e4 (.tuple #[S N,e5 true])/\Bw W w'):=z.o;by_cases hC:C=97
 .have b:Hid (L++bookS T (ss.take (j+1))=M++[N]):=b.o.trans (by simp[hC]);have i4:((C.toNat:Int)==97)=true:=by rw[hC];rfl
  clear hC
  go_wp2_with (first
   |(go_at_call 96;((with_reducible refine eg (z.o _) ?_);rintro e I⟨rfl,g⟩;have t:=Z (HG.o _ g);have O:=Z (aE A.o g);obtain⟨aC,_,b0,_⟩:=K.o I t.o;obtain⟨aT,_⟩:=a0.o I t.o;clear g))
   |(at_builtin;refine sU [S N] O.o t.o (ej _) underlying81 i9 ?_ (hn:=by have:=au.o;omega);intro b1 b3 w6 ho hb;have ay:=Z ho;have al:=Z hb;clear ho hb))
  go_roundw;exact⟨j+1,b1,b3,by omega,by rw[b.o];simp,by go_num,by unfold Hid;rw[b.o];have:=ay.o;simpa using this,al.o⟩;simp[intOf];omega
 have b:Hid (L++bookS T (ss.take (j+1))=M):=b.o.trans (by simp[hC]);have i4:((C.toNat:Int)==97)=false:=beq_eq_false_iff_ne.2 λh=>hC (UInt8.toNat_inj.1 (Int.ofNat.inj h));clear hC;go_wp2_with (go_at_call 96;(refine eg (z.o _) ?_;rintro e I⟨rfl,g⟩;have t:=Z (HG.o _ g);have O:=Z (aE A.o g);obtain⟨aC,_,b0,_⟩:=K.o I t.o;obtain⟨aT,_⟩:=a0.o I t.o;clear g))
 go_roundw
 case rel=>exact⟨j+1,o,p,by omega,by rw[b.o],by go_num,by unfold Hid;rw[b.o];exact O.o,t.o⟩
 simp[intOf];omega
attribute [local go_sem] Oper.semAt_some
theorem mI(s:Bs)(w:ft)(I:s.length<=1000000):Calls prog 203 #[S s] w λe w'=>e=e4 (J U (aM (s.take 4)))/\w=w':=by
 by_cases hl:s.length<4
 .have g:Hid (aM (s.take 4)= -1):=by unfold Hid aM;rw[if_neg (λh=>by have:=h.1;rw[e7]at this;omega)]
  have j:(s.length:Int)<4:=by omega
  clear hl;go_enter func203,ntmps203;go_wp2_with fail;go_ret;exact⟨aI g.symm,rfl⟩
 obtain⟨t,m⟩:=Qe (s.take 4);have x:t.length=4:=by rw[<- m,e7];omega
 have u:=Z x;have B:Hid (∀k(h:k<4),∃(b:k<s.length)(l:k<t.length),s[k]=t[k]):=λk h=>⟨by omega,by omega,by subst m;rw[List.getElem_take]⟩;have g:Hid (aM t=if t.all digitB=true then foldN t else -1):=by unfold Hid aM;simp only[x,true_and];rfl
 have j:¬(s.length:Int)<4:=by omega
 rw[m];clear m x hl;go_enter func203,ntmps203;go_wp2_with fail;go_loop [3,4] (λn i=>∃k:Nat,k<=4/\i=J U k/\n=J U (foldN (t.take k))/\Hid ((t.take k).all digitB=true)) (λ_ i=>4-(intOf i).toNat)
 case atStart=>exact⟨0,eQ _,rfl,rfl,rfl⟩
 obtain⟨k,E,rfl,rfl,f⟩:=hrel;have d:=mE (t.take k) (λc a=>by have:=f.o;rw[List.all_eq_true]at this;exact this c a) k (by rw[e7,u.o];omega);rw[List.take_take,Nat.min_self]at d;have H:foldN (t.take k)<10000:=Int.lt_of_lt_of_le d.2 (by
  have:(10:Nat)^k<=10^4:=Nat.pow_le_pow_right (by omega) (by omega);have l:(((10:Nat)^k:Nat):Int)<=((10^4:Nat):Int):=by exact_mod_cast this
  simpa using l)
 have G:=d.1;clear d;by_cases hlt:k<4;rotate_left
 .rw[em (by rw[u.o];omega)]at f;have C:Hid (foldN (t.take k)=foldN t):=by unfold Hid;rw[em (by rw[u.o];omega)]
  generalize foldN (t.take k)=q at*;go_wp2_with fail;go_ret;exact⟨aI (by rw[g.o,if_pos f.o,C.o]),rfl⟩
 obtain⟨F,v,A⟩:=B k hlt;have r:=Z (jd t k v);have y:=Z (oQ (p:=digitB) t k v);have z:Hid (t[k]∈t):=er v;rw[<- A]at r y z;generalize foldN (t.take k)=q at*;clear A;by_cases a:digitB s[k]=true
 .have o:=Z a;obtain⟨j,b⟩:=cS a;obtain⟨c,D⟩:=Qe (s[k].toNat);rw[D]at j b r;have K:IntKind.u8.wrap ((c:Int)-48)=(c:Int)-48:=by unfold IntKind.wrap;simp[IntKind.signed,IntKind.bits];omega
  have l:¬(c:Int)<48:=by omega
  have d:¬(57:Int)<(c:Int):=by omega
  clear a j b;go_wp2_with fail;go_round
  case rel=>exact⟨k+1,by omega,by go_num,by rw[r.o],by unfold Hid;rw[y.o,f.o,o.o];rfl⟩
  simp[intOf];omega
 have o:Hid (aM t= -1):=by refine g.trans (if_neg λh=>?_);rw[List.all_eq_true]at h;exact a (h _ z.o)
 have b:(s[k].toNat:Int)<48∨(¬(s[k].toNat:Int)<48/\(57:Int)<(s[k].toNat:Int)):=by unfold digitB at a;simp only[Bool.and_eq_true,decide_eq_true_eq]at a;omega
 clear a;rcases b with b|⟨l,b⟩
 all_goals
  go_wp2_with fail
  go_ret
  exact⟨aI o.symm,rfl⟩
theorem mX(k l:UInt8)(x:fx)(a:List af)(w:ft)(B:ag 0 w.heap.size w x a)(o:bo a):
 Calls prog 150 #[.agg #[J dy k.toNat,J dy l.toNat,x]] w λe w'=>∃v,e=e4 v/\w'.ownsRow w.heap.size 9 1 v (bh a).length ((bh a).map λs=>S s)/\Bw w w':=by
 obtain⟨t,xa,xc,a3,rfl,u,a4,z⟩:=kW k l x a w B;obtain⟨⟨P,Q,R⟩,A⟩:=z t (es _ _);have p:=Z (jH k l _ a [49,48,48] t (A.mono (ej _) (by omega)) o.1);have L:=Z (jq o [49,48,48] [97] (by decide) _ rfl);have K:=Z (λW=>jQ (textF (firstF a [49,48,48]) [97]) W (cE o _ _));have I:Hid (bh a=wordsR (textF (firstF a [49,48,48]) [97])):=rfl;have G:Hid ((firstF a [49,48,48]).isSome=false->wordsR (textF (firstF a [49,48,48]) [97])=[]):=λh=>by rw[Option.isSome_eq_false_iff,Option.isNone_iff_eq_none]at h;rw[h];rfl
 have m:=Z u;rw[I.o];clear B o u z A;unfold gH at p;generalize(firstF a [49,48,48]).isSome=bs at*;generalize textF (firstF a [49,48,48]) [97]=T at*;generalize(firstF a [49,48,48]).getD zeroF=g at*;obtain⟨gt,gi,V,gs⟩:=g;generalize a.length=n at*;cases bs
 .have F:=Z (G rfl);go_enter func150,ntmps150;go_wp2_with (go_at_call 99;(refine eg p.o ?_;rintro e r⟨⟨v,rfl,d,rfl,f⟩,j⟩;obtain⟨M,N,rfl,_⟩:=id f;have i:=Z j;clear f j))
  go_ret;rw[F.o];have c:Bw w r:=m.trans (i.mono m.size);exact⟨_,rfl,fl _ _ _ _,c.alloc c.size _⟩
 go_enter func150,ntmps150
 go_wp2_with (first
  |(go_at_call 99;((with_reducible refine eg p.o ?_);rintro e r⟨⟨v,rfl,d,rfl,f⟩,j⟩;obtain⟨M,N,rfl,_⟩:=id f;have E:=Z f;have i:=Z j;clear f j))
  |(go_at_call 101;((with_reducible refine eg (L.o _ _ ?_) ?_);(focus exact(E.o.kept (λk _ O=>fn _ _ _ (Nat.lt_of_lt_of_le O i.o.size))).mono (ej _) (by have:=i.o.size;simp;omega));rintro e w4⟨rfl,b⟩;have C:=Z b;clear b))
  |(go_at_call 100;((with_reducible refine eg (K.o _) ?_);rintro e w5⟨v5,rfl,q,y⟩;obtain⟨va,vc,rfl⟩:=aG q;have H:=Z q;have D:=Z y;clear q y)))
 go_ret;have c:Bw w r:=m.trans (i.mono m.size);have b:=(c.alloc c.size _).trans (C.o.mono (by have:=c.size;simp;omega));exact⟨_,rfl,aD H.o b.size,b.trans (D.mono b.size)⟩
attribute [local go_sem] Oper.semAt_some
theorem qJ(k l:UInt8)(x:fx)(a:List af)(w:ft)(hs:ag 0 w.heap.size w x a)(u:bo a):
 Calls prog 152 #[.agg #[J dy k.toNat,J dy l.toNat,x]] w λe w'=>e=e4 (J U (br a))/\Bw w w':=by
 obtain⟨s,R,xc,aC,rfl,a5,aT,Q⟩:=kW k l x a w hs;have L:Hid (∀(a8:Bs)(W:ft),Bw s W->_):=λa8 W h=>jH k l _ a a8 W ((Q W h).2.mono (ej _) (by have:=h.size;omega)) u.1;have A:=Z (L.o [48,48,56] s (es _ _));have I:=Z (L.o [50,54,48]);have HX:=Z (jq u [50,54,48] [99] (by decide) _ rfl);have j:Hid (∀W,Bw s W->W.cell? ⟨w.heap.size,0,Y⟩=X (J dy k.toNat)/\W.cell? ⟨w.heap.size,1,Y⟩=X (J dy l.toNat)/\W.cell? ⟨w.heap.size,2,Y⟩=X (dz R a.length xc)):=λW h=>(Q W h).1;have p:=Z a5;obtain⟨a0,a1,a2⟩:=j s (es _ _);have a4:=cE u [50,54,48] [99];have ax:((firstF a [48,48,56]).getD zeroF).data.length<=1000000:=by
  cases h:firstF a [48,48,56]with
  |none=>exact eQ _
  |some f=>have:=u.2 f (eK h);simp only[Option.getD_some,fieldBytes,e8]at this ⊢;omega
 have N:Hid (fo a=if(firstF a [48,48,56]).isSome=true/\11<=((firstF a [48,48,56]).getD zeroF).data.length then aM ((((firstF a [48,48,56]).getD zeroF).data.drop 7).take 4)else -1):=by
  unfold Hid fo;show(match firstF a [48,48,56]with|some f=>_|none=>_)=_;cases firstF a [48,48,56]with
  |none=>rfl
  |some f=>simp[B8,List.take_drop]
 have M:Hid (br a=if 0<=fo a then fo a else bp (textF (firstF a [50,54,48]) [99])):=rfl;have ao:Hid ((firstF a [50,54,48]).isSome=false->bp (textF (firstF a [50,54,48]) [99])= -1):=λh=>by rw[Option.isSome_eq_false_iff,Option.isNone_iff_eq_none]at h;rw[h];rfl
 clear hs u a5 Q L;unfold gH at I A;generalize(firstF a [50,54,48]).isSome=b6 at*;generalize(firstF a [48,48,56]).isSome=b8 at*;generalize textF (firstF a [50,54,48]) [99]=T at*;generalize(firstF a [50,54,48]).getD zeroF=g6 at*;generalize(firstF a [48,48,56]).getD zeroF=g8 at*;obtain⟨t6,i6,d6,s6⟩:=g6;obtain⟨t8,i8,m,s8⟩:=g8;dsimp only at*;generalize a.length=n at*;have H:=Z (λW=>mI (m.drop 7) W (by rw[List.length_drop];omega));generalize aM ((m.drop 7).take 4)=nf at*;have a3:=Z a4;clear a4 ax;by_cases hA:b8=true/\11<=m.length/\0<=nf
 .obtain⟨rfl,P,a7⟩:=hA;have au:Hid (br a=nf):=by have:=N.trans (if_pos ⟨rfl,P⟩);unfold Hid;rw[M.o,this,if_pos a7]
  have ay:(11:Int)<=(m.length:Int):=by omega
  go_enter func152,ntmps152
  go_wp2_with (first
   |(go_at_call 99;((with_reducible refine eg A.o ?_);rintro e y⟨⟨v,rfl,d,rfl,c⟩,b⟩;obtain⟨D,E,rfl,_⟩:=id c;have a9:=Z b;clear c b))
   |(go_at_call 203;((with_reducible refine eg (H.o _) ?_);rintro e G⟨rfl,rfl⟩)))
  go_ret;have t:Bw w y:=p.trans (a9.mono p.size);exact⟨aI au.symm,t.alloc t.size _⟩
 have O:Hid (br a=bp T):=by
  refine M.trans (if_neg λh=>?_);rw[N.o]at h;split at h
  .rename_i F;exact hA ⟨F.1,F.2,h⟩
  omega
 have av:b8=false∨(b8=true/\¬(11:Int)<=(m.length:Int))∨(b8=true/\(11:Int)<=(m.length:Int)/\¬0<=nf):=by
  cases b8
  .exact .inl rfl
  refine .inr ?_;by_cases h:(11:Int)<=(m.length:Int)
  .exact .inr ⟨rfl,h,λF=>hA ⟨rfl,by omega,F⟩⟩
  exact .inl ⟨rfl,h⟩
 clear hA M N;rcases av with rfl|⟨rfl,P⟩|⟨rfl,P,a7⟩
 all_goals
  go_enter func152,ntmps152
  cases b6
  .have HE:=Z (ao rfl)
   go_wp2_with (first
    |(go_at_call 99;((with_reducible refine eg A.o ?_);rintro e y⟨⟨v,rfl,d,rfl,c⟩,b⟩;obtain⟨D,E,rfl,_⟩:=id c;have g:Hid (∀o,Bw s (y.alloc o)):=λo=>b.alloc b.size o;have R:=λo=>(j.o _ (g.o o)).1;have xb:=λo=>(j.o _ (g.o o)).2.1;have xd:=λo=>(j.o _ (g.o o)).2.2;clear c b))
    |(go_at_call 203;((with_reducible refine eg (H.o _) ?_);rintro e G⟨rfl,rfl⟩))
    |(go_at_call 99;((with_reducible refine eg (I.o _ (g.o _)) ?_);rintro e w5⟨⟨v,rfl,d,rfl,c⟩,b⟩;obtain⟨D,E,rfl,_⟩:=id c;have r:=Z (btr (g.o _) b (g.o _).size);clear c b)))
   go_ret
   have t:Bw w w5:=p.trans (r.mono p.size)
   exact⟨aI (by rw[O.o,HE.o]),t.alloc t.size _⟩
  .go_wp2_with (first
    |(go_at_call 99;((with_reducible refine eg A.o ?_);rintro e y⟨⟨v,rfl,d,rfl,c⟩,b⟩;obtain⟨D,E,rfl,_⟩:=id c;have g:Hid (∀o,Bw s (y.alloc o)):=λo=>b.alloc b.size o;have R:=λo=>(j.o _ (g.o o)).1;have xb:=λo=>(j.o _ (g.o o)).2.1;have xd:=λo=>(j.o _ (g.o o)).2.2;clear c b))
    |(go_at_call 203;((with_reducible refine eg (H.o _) ?_);rintro e G⟨rfl,rfl⟩))
    |(go_at_call 99;((with_reducible refine eg (I.o _ (g.o _)) ?_);rintro e w5⟨⟨v,rfl,d,rfl,c⟩,b⟩;obtain⟨D,E,rfl,_⟩:=id c;have al:=Z (c.mono (ej _) b.size);have r:=Z (btr (g.o _) b (g.o _).size);clear c b))
    |(go_at_call 101;((with_reducible refine eg (HX.o _ _ ?_) ?_);(focus exact(al.o.kept (λk _ h3=>fn _ _ _ h3)).mono (ej _) (by simp));rintro e w4⟨rfl,a6⟩;have ac:Hid (Bw w w4):=p.o.trans ((btr (r.o.alloc r.o.size _) a6 (r.o.alloc r.o.size _).size).mono p.o.size);clear a6)))
   go_loopw [8] (λi wr=>∃q:Nat,q<=T.length/\i=J U q/\Hid (bp T=bp (T.drop q))/\Hid (Bw w wr)) (λi _=>T.length-(intOf i).toNat)
   case' atStart=>exact⟨0,eQ _,rfl,rfl,ac.o⟩
   case' round=>
    obtain⟨q,hq,rfl,C,K⟩:=hrel
    by_cases hlt:q<T.length
    .have i1:(q:Int)<T.length:=by omega
     have aS:=a3.o
     have B:=Z (eY T q hlt)
     have V:=Z (λW=>mI (T.drop q) W (by have:=a3.o;rw[List.length_drop];omega))
     generalize aM ((T.drop q).take 4)=z at*
     by_cases hz:0<=z
     .rw[if_pos hz]at B
      go_wp2_with (go_at_call 203;(refine eg (V.o _) ?_;rintro e G⟨rfl,rfl⟩))
      go_ret
      exact⟨aI (by rw[O.o,C.o,B.o]),K.o⟩
     .rw[if_neg hz]at B
      go_wp2_with (go_at_call 203;(refine eg (V.o _) ?_;rintro e G⟨rfl,rfl⟩))
      go_roundw
      case' rel=>exact⟨q+1,hlt,by go_num,by unfold Hid;rw[C.o,B.o],K.o⟩
      case' measure=>simp[intOf];omega
    .rw[List.drop_of_length_le (by omega)]at C
     go_wp2_with fail
     go_ret
     exact⟨aI (by rw[O.o,C.o];rfl),K.o⟩
attribute [local go_sem] Oper.semAt_some
theorem zU{s N:Bs}(h:isbnR s=X N):N.length<=1000:=ex (ed h) (by decide)
theorem CC(k l:UInt8)(x:fx)(f:List af)(w:ft)(hs:ag 0 w.heap.size w x f)(R:bo f):
 Calls prog 53 #[.agg #[J dy k.toNat,J dy l.toNat,x]] w λe w'=>∃(v:fx)(L:List Bs),e=e4 v/\w'.ownsRow w.heap.size 9 1 v L.length (L.map λs=>S s)/\(∀y,y∈L↔y∈rawR f)/\L.length<=1000000000001/\Bw w w':=by
 obtain⟨p,xa,xc,cy,rfl,c7,a2,b4⟩:=kW k l x f w hs;have HX:=Z b4;have aC:=Z c7;have c6:=Z a2;have bY:=Z R;have bB:=Z (λq=>dl f q R);have b8:Hid (∀W,Bw p W->ag 0 W.heap.size W (dz xa f.length xc) f):=λW h=>(b4 W h).2.mono (ej _) (by have:=h.size;omega);have a5:Hid (∀W,Bw p W->_):=λW h=>lO k l _ f W (b8 W h) R;have ay:Hid (∀W,Bw p W->_):=λW h=>jH k l _ f [49,48,48] W (b8 W h) R.1;have c4:=Z (jq R [49,48,48] [97] (by decide) _ rfl);have c5:=Z (λW=>jQ (textF (firstF f [49,48,48]) [97]) W (cE R _ _));have ac:Hid (rawR f=(booksR f).map isbnK++(if aK f=[]then[]else[jT f])):=rfl;have bd:Hid (jT f=[116,105,116,108,101,32]++aK f++[32,47,32]++(wordsR (textF (firstF f [49,48,48]) [97])).headD []):=rfl;have dd:=jS f R;have aT:∀y∈wordsR (textF (firstF f [49,48,48]) [97]),y.length<=10000000:=λy hy=>by have:=gJ _ y hy;have:=cE R [49,48,48] [97];omega
 have ch:=Z aT;obtain⟨n,hn⟩:=Qe f.length;have HN:=Z hn;have d9:n<=1000000:=hn▸R.1;rw[hn]at b4 cy HX a5 ay ⊢;unfold gH at ay;clear hs R b4 c7 a2 hn b8 aT;generalize aK f=TT at*;generalize wordsR (textF (firstF f [49,48,48]) [97])=AA at*;generalize textF (firstF f [49,48,48]) [97]=TX at*;generalize(firstF f [49,48,48]).getD zeroF=g1 at*;generalize(firstF f [49,48,48]).isSome=b1 at*;obtain⟨t1,i1,d1,s1⟩:=g1;dsimp only at*;go_enter func53,ntmps53;go_wp2_with fail;go_loopw [3,4] (λv i wr=>∃(q:Nat)(L:List Bs)(B:Option Addr)(E:Nat),q<=n/\v=dz B L.length E/\i=J U q/\Hid (wr.ownsRow p.heap.size 9 1 (dz B L.length E) L.length (L.map λs=>S s))/\Hid (Bw p wr)/\Hid (∀y,y∈L↔y∈(booksR (f.take q)).map isbnK)/\Hid (L.length<=(booksR (f.take q)).length)) (λ_ i _=>n-(intOf i).toNat)
 exact⟨0,[],Y,0,eQ _,rfl,rfl,fl _ _ _ _,es _ _,by unfold Hid;simp[booksR],eQ _⟩;obtain⟨q,L0,B,E,hq,rfl,rfl,HO,A,O,HL⟩:=hrel;obtain⟨⟨b0,bl,b2⟩,bv⟩:=HX wr A.o;by_cases hlt:q<n;rotate_left
 .have e:f.take q=f:=em (by rw[HN.o];omega);have b3:=bB q;rw[e]at O HL b3;have a6:Hid (L0.length<=1000000000000):=ex HL.o b3;have d0:q=n:=by omega
  subst d0;have a2:=aC.size;clear bv e b3;have a5:=Z (a5 wr A.o);by_cases t:TT=[]
  .subst t;rw[if_pos rfl,List.append_nil]at ac;go_wp2_with (go_at_call 98;(refine eg a5.o ?_;rintro e w4⟨rfl,H⟩;have F:=Z (btr A.o H A.o.size);have a8:=Z (aE HO.o H);clear H))
   go_ret;exact⟨dz B L0.length E,L0,rfl,aD a8.o a2,λy=>by rw[ac.o];exact O.o y,ex a6.o (by decide),btr aC.o F.o a2⟩
  rw[if_neg t]at ac;have d7:(TT==[])=false:=by simpa using t
  obtain⟨a,ha⟩:=Qe (AA.headD []);rw[ha]at bd;have aT:a.length<=10000000:=by
   rw[<- ha];cases AA with
   |nil=>exact eQ _
   |cons b r=>exact ch b List.mem_cons_self
  have cd:Hid (AA.length=0->a=[]):=λh=>by rw[<- ha,List.eq_nil_of_length_eq_zero h];rfl
  have cg:Hid (∀h:0<AA.length,AA[0]=a):=λh=>by
   rw[<- ha];cases AA with
   |nil=>exact absurd h (by simp)
   |cons b r=>rfl
  clear t ha;by_cases hm:0<AA.length
  .have cz:(0:Int)<AA.length:=by omega
   have bO:=Z hm;clear hm
   go_wp2_with (first
    |(go_at_call 98;((with_reducible refine eg a5.o ?_);rintro e w4⟨rfl,H⟩;have F:=Z (btr A.o H A.o.size);have a8:=Z (aE HO.o H);obtain⟨⟨x0,x1,x2⟩,_⟩:=HX.o w4 F.o;clear H))
    |(go_at_call 99;((with_reducible refine eg (ay.o _ F.o) ?_);rintro e w2⟨⟨v,rfl,d,rfl,hd⟩,u⟩;obtain⟨ad,cp,rfl,_⟩:=id hd;have b7:=Z (hd.mono (ej _) u.size);have m:=Z (btr F.o u F.o.size);have a7:=Z (aE a8.o u);clear hd u))
    |(go_at_call 101;((with_reducible refine eg (c4.o _ _ ?_) ?_);(focus exact(b7.o.kept (λk _ h3=>fn _ _ _ h3)).mono (ej _) (by simp));rintro e V⟨rfl,g⟩;have o:Hid (Bw p V):=btr (m.o.alloc m.o.size _) g (m.o.alloc m.o.size _).size;have a1:=Z (aE (a7.o.alloc _) g);clear g))
    |(go_at_call 100;((with_reducible refine eg (c5.o _) ?_);rintro e w6⟨v6,rfl,Q,P⟩;obtain⟨wa,wc,rfl⟩:=aG Q;obtain⟨pb,po,pc,cQ,_,_,cP⟩:=cT.at (aN Q) 0 bO.o;(injection cQ with p1 _ p3);subst p1;rw[cg.o bO.o,Nat.add_zero]at cP;have a0:Hid (Bw p w6):=btr o.o P o.o.size;have a9:=Z (aE a1.o P);clear Q P))
    |(go_at_call 97;((with_reducible refine eg (tP _ L0 _ p.heap.size _ a9.o ?_ ?_) ?_);(focus exact a0.o.size);(focus exact ex a6.o (by decide));rintro e w7⟨v7,L7,rfl,a3,au,ao,al⟩;obtain⟨bw,bA,rfl⟩:=aG a3;have bc:=Z a3;have bb:=Z au;have b9:=Z ao;have b6:Hid (Bw p w7):=btr a0.o al a0.o.size;clear a3 au ao al)))
   go_ret;refine⟨dz bw L7.length bA,L7,rfl,aD bc.o a2,λy=>?_,ex b9.o (Nat.succ_le_succ a6.o),btr aC.o b6.o a2⟩;rw[bb.o y,ac.o,fs,gb,bd.o,O.o y];simp
  have cz:¬(0:Int)<AA.length:=by omega
  have ha:=cd.o (by omega);subst ha;clear hm aT
  go_wp2_with (first
   |(go_at_call 98;((with_reducible refine eg a5.o ?_);rintro e w4⟨rfl,H⟩;have F:=Z (btr A.o H A.o.size);have a8:=Z (aE HO.o H);obtain⟨⟨x0,x1,x2⟩,_⟩:=HX.o w4 F.o;clear H))
   |(go_at_call 99;((with_reducible refine eg (ay.o _ F.o) ?_);rintro e w2⟨⟨v,rfl,d,rfl,hd⟩,u⟩;obtain⟨ad,cp,rfl,_⟩:=id hd;have b7:=Z (hd.mono (ej _) u.size);have m:=Z (btr F.o u F.o.size);have a7:=Z (aE a8.o u);clear hd u))
   |(go_at_call 101;((with_reducible refine eg (c4.o _ _ ?_) ?_);(focus exact(b7.o.kept (λk _ h3=>fn _ _ _ h3)).mono (ej _) (by simp));rintro e V⟨rfl,g⟩;have o:Hid (Bw p V):=btr (m.o.alloc m.o.size _) g (m.o.alloc m.o.size _).size;have a1:=Z (aE (a7.o.alloc _) g);clear g))
   |(go_at_call 100;((with_reducible refine eg (c5.o _) ?_);rintro e w6⟨v6,rfl,Q,P⟩;obtain⟨wa,wc,rfl⟩:=aG Q;have a0:Hid (Bw p w6):=btr o.o P o.o.size;have a9:=Z (aE a1.o P);clear Q P))
   |(go_at_call 97;((with_reducible refine eg (tP _ L0 _ p.heap.size _ a9.o ?_ ?_) ?_);(focus exact a0.o.size);(focus exact ex a6.o (by decide));rintro e w7⟨v7,L7,rfl,a3,au,ao,al⟩;obtain⟨bw,bA,rfl⟩:=aG a3;have bc:=Z a3;have bb:=Z au;have b9:=Z ao;have b6:Hid (Bw p w7):=btr a0.o al a0.o.size;clear a3 au ao al)))
  go_ret;refine⟨dz bw L7.length bA,L7,rfl,aD bc.o a2,λy=>?_,ex b9.o (Nat.succ_le_succ a6.o),btr aC.o b6.o a2⟩;rw[bb.o y,ac.o,fs,gb,bd.o,O.o y];simp
 have av:q<f.length:=by rw[HN.o];exact hlt
 have i1:(q:Int)<n:=by omega
 have cu:Hid (booksR (f.take (q+1))=booksR (f.take q)++bookS f[q].tag f[q].subs):=by unfold Hid booksR;rw[e9 av,fz];simp[ic]
 have b3:=bB q;have dc:f[q].subs.length<=1000000:=ex (ci _) (bY.2 _ (er av));have cv:Hid (∀s∈f[q].subs,s.text.length<=1000000):=λs hs=>iR (bY.2 _ (er av)) hs;obtain⟨fb,ds,d6,d,hv,_,d8,c0,c1,c2,c3,a4⟩:=bv.field q av;obtain⟨ad,cp,rfl,_⟩:=id a4;injection hv with e1 e2 e3
 subst e1;subst e3;clear e2;obtain⟨G,bk⟩:=Qe (wr.alloc (dx #[S f[q].tag,S f[q].ind,S f[q].data,.slice ad f[q].subs.length cp] 123));have dk:G.heap.size=wr.heap.size+1:=by rw[<- bk];simp
 have u:Bw wr G:=by rw[<- bk];exact(es _ wr).alloc (ej _) _
 have HF:Hid (∀W,Bw G W->W.cell? ⟨wr.heap.size,0,Y⟩=some (S f[q].tag)/\W.cell? ⟨wr.heap.size,3,Y⟩=some (.slice ad f[q].subs.length cp)/\aw 0 w.heap.size W (.slice ad f[q].subs.length cp) f[q].subs/\Bw p W):=λW hW=>by have h0:W.heap[wr.heap.size]?=some (dx #[S f[q].tag,S f[q].ind,S f[q].data,.slice ad f[q].subs.length cp] 123 (0,0)):=(hW.block _ (by omega)).trans (by rw[<- bk];exact fy wr _);have h1:=btr u hW u.size;exact⟨by rw[aa h0];rfl,by rw[aa h0];rfl,aw.kept a4 (aY h1 (by have:=A.o.size;have:=c6.o;omega)),btr A.o h1 A.o.size⟩
 have a7:=Z (aE HO.o u);obtain⟨f0,f3,_⟩:=HF G (es _ _);generalize booksR (f.take q)=M0 at*;generalize f[q].tag=T at*;generalize f[q].subs=ss at*;generalize f[q].ind=I at*;generalize f[q].data=D at*;clear bv av a4 u;go_wp2_with fail;go_loopw [3,6] (λv i wx=>∃(j:Nat)(L:List Bs)(B:Option Addr)(E:Nat),j<=ss.length/\v=dz B L.length E/\i=J U j/\Hid (wx.ownsRow p.heap.size 9 1 (dz B L.length E) L.length (L.map λs=>S s))/\Hid (Bw G wx)/\Hid (∀y,y∈L↔y∈(M0++bookS T (ss.take j)).map isbnK)/\Hid (L.length<=(M0++bookS T (ss.take j)).length)) (λ_ i _=>ss.length-(intOf i).toNat)
 case atStart=>
  have e:M0++bookS T (ss.take 0)=M0:=by unfold bookS;simp
  exact⟨0,L0,B,E,eQ _,rfl,rfl,a7.o,es _ _,by rw[e];exact O.o,by rw[e];exact HL.o⟩
 obtain⟨j,L,B,E,hj,rfl,rfl,HO,m,O,HL⟩:=hrel;obtain⟨f0,f3,a4,bs⟩:=HF wr m.o;have cl:=Z bs;by_cases hgo:j<ss.length/\T=cZ;rotate_left
 .have HE:Hid (booksR (f.take (q+1))=M0++bookS T (ss.take j)):=by
   unfold Hid;rw[cu.o];congr 1
   by_cases t:T=cZ
   .rw[em (by have:¬j<ss.length:=λh=>hgo ⟨h,t⟩;omega)]
   unfold bookS;rw[if_neg t,if_neg t]
  have hx:((j:Int)<ss.length/\(T==[48,50,48])=false)∨¬(j:Int)<ss.length:=by
   by_cases h:j<ss.length
   .exact .inl ⟨by omega,by simpa[cZ]usingλt=>hgo ⟨h,t⟩⟩
   exact .inr (by omega)
  generalize M0++bookS T (ss.take j)=M at*;clear hgo a4 bs;rcases hx with⟨h1,h2⟩|h1
  all_goals
   go_wp2_with fail
   go_roundw
   case rel=>exact⟨q+1,L,B,E,by omega,rfl,by go_num,HO.o,cl.o,by unfold Hid;rw[HE.o];exact O.o,by unfold Hid;rw[HE.o];exact HL.o⟩
   case measure=>simp[intOf];omega
 obtain⟨b5,t⟩:=hgo;have i2:(j:Int)<ss.length:=by omega
 have i3:(T==[48,50,48])=true:=by rw[t];rfl
 have z:Hid (M0++bookS T (ss.take (j+1))=(M0++bookS T (ss.take j))++(if ss[j].code=97 then(isbnR ss[j].text).toList else[])):=by unfold Hid;rw[gr T ss j b5,List.append_assoc];simp[t]
 have c9:=fL T (ss.take j);rw[e7]at c9;have cq:Hid (L.length<=1000001000000):=by have:=HL.o;unfold Hid;rw[e8]at this;omega
 have HI:=Z (λW=>vw ss[j].text W (cv _ (er b5)));have aS:Hid (∃K so,ad=some ⟨K,so,Y⟩/\∀W,Bw G W->W.cell? ⟨K,so+j*2,Y⟩=some (J dy ss[j].code.toNat)/\W.cell? ⟨K,so+j*2+1,Y⟩=some (S ss[j].text)):=by
  obtain⟨K,so,c,hv,_,ax,s0,s1⟩:=a4.sub j b5;injection hv with e1 e2 e3
  have ax:K<G.heap.size:=by have:=c6.o;have:=A.o.size;omega
  exact⟨K,so,e1,λW hW=>by rw[(an hW).1 K _ ax,(an hW).1 K _ ax,<- (an m.o).1 K _ ax,<- (an m.o).1 K _ ax];exact⟨s0,s1⟩⟩
 obtain⟨K,so,rfl,bt⟩:=aS.o;have aS:=Z bt;obtain⟨s0,s1⟩:=bt wr m.o;generalize M0++bookS T (ss.take j)=M at*;obtain⟨r,hr⟩:=Qe (isbnR ss[j].text);have cm:Hid (∀N,r=some N->N.length<=1000):=λN h=>zU (hr.trans h);rw[hr]at HI z;generalize ss[j].text=X at*;generalize ss[j].code=C at*;clear t hr bt a4 c9 b5 bs;have HG:Hid (∀W,Bw wr W->Bw G W):=λW h=>btr m.o h m.size;rcases r with _|N
 .have z:Hid (M0++bookS T (ss.take (j+1))=M):=z.o.trans (by simp);have HI:Hid (∀W,Calls prog 96 #[S X] W λe w'=>e=e4 (.tuple #[S [],e5 false])/\Bw W w'):=HI.o;go_wp2_with (go_at_call 96;(refine eg (HI.o _) ?_;rintro e V⟨rfl,g⟩;have o:=Z (HG.o _ g);have a1:=Z (aE HO.o g);clear g))
  go_roundw;exact⟨j+1,L,B,E,by omega,rfl,by go_num,a1.o,o.o,by unfold Hid;rw[z.o];exact O.o,by unfold Hid;rw[z.o];exact HL.o⟩;simp[intOf];omega
 have HI:Hid (∀W,Calls prog 96 #[S X] W λe w'=>e=e4 (.tuple #[S N,e5 true])/\Bw W w'):=HI.o;have da:=cm N rfl;by_cases hC:C=97
 .have z:Hid (M0++bookS T (ss.take (j+1))=M++[N]):=z.o.trans (by simp[hC]);have i4:((C.toNat:Int)==97)=true:=by rw[hC];rfl
  have g1:¬9223372036854775807<N.length+1+1+1+1+1:=by omega
  clear hC
  go_wp2_with (first
   |(go_at_call 96;((with_reducible refine eg (HI.o _) ?_);rintro e V⟨rfl,g⟩;have o:=Z (HG.o _ g);have a1:=Z (aE HO.o g);obtain⟨_,d3,_,cc⟩:=HF.o V o.o;have cx:=Z cc;obtain⟨d2,_⟩:=aS.o V o.o;clear g cc))
   |(go_at_call 97;((with_reducible refine eg (tP _ L _ p.heap.size _ a1.o ?_ ?_) ?_);(focus exact cx.o.size);(focus exact ex cq.o (by decide));rintro e w6⟨v6,L6,rfl,Q,cb,c8,P⟩;obtain⟨d4,d5,rfl⟩:=aG Q;have a9:=Z Q;have cs:=Z cb;have cn:=Z c8;have a0:Hid (Bw G w6):=btr o.o P o.o.size;clear Q cb c8 P)))
  go_roundw
  case rel=>
   refine⟨j+1,L6,d4,d5,by omega,rfl,by go_num,a9.o,a0.o,λy=>?_,?_⟩
   .rw[cs.o y,z.o,fp,fs,O.o y];simp[isbnK]
   have:=cn.o;have:=HL.o;unfold Hid;rw[z.o,e8];simp;omega
  simp[intOf];omega
 have z:Hid (M0++bookS T (ss.take (j+1))=M):=z.o.trans (by simp[hC]);have i4:((C.toNat:Int)==97)=false:=beq_eq_false_iff_ne.2 λh=>hC (UInt8.toNat_inj.1 (Int.ofNat.inj h));clear hC;go_wp2_with (go_at_call 96;(refine eg (HI.o _) ?_;rintro e V⟨rfl,g⟩;have o:=Z (HG.o _ g);have a1:=Z (aE HO.o g);obtain⟨_,d3,_⟩:=HF.o V o.o;obtain⟨d2,_⟩:=aS.o V o.o;clear g))
 go_roundw
 case rel=>exact⟨j+1,L,B,E,by omega,rfl,by go_num,a1.o,o.o,by unfold Hid;rw[z.o];exact O.o,by unfold Hid;rw[z.o];exact HL.o⟩
 simp[intOf];omega
theorem xj(a b:Int)(n:Int)(k l:Int)(x:fx)(w:ft):(Instr.field 64 (.agg #[J U a,J U b,J U n,J dy k,J dy l,x]) 1).run prog w=.ok (J U n) w:=by kernel_rfl
theorem xi(a b:Int)(n:Int)(k l:Int)(o:Option Addr)(m c:Nat)(w:ft):(Instr.field 64 (.agg #[J U a,J U b,J U n,J dy k,J dy l,dz o m c]) 2).run prog w=.ok (.agg #[J dy k,J dy l,dz o m c]) w:=by kernel_rfl
theorem uz(a:Int)(j:Bool)(w:ft):(Instr.field 139 (.agg #[J U a,e5 j]) 1).run prog w=.ok (e5 j) w:=by kernel_rfl
def inC(d:ar)(p:RK×(Int×aA)):Bool:=match findK d.ds p.1 with
 |some n=>decide (n<=p.2.1)
 |none=>true
theorem qS(d:ar):thereC d=d.vs.filter (inC d):=rfl
theorem vj(l:List RK):∀u∈l.flatMap rkCells,u.oneCell'=true:=by
 intro u a;obtain⟨p,b,a⟩:=List.mem_flatMap.1 a;simp only[rkCells,List.mem_cons,List.not_mem_nil,or_false]at a;rcases a with rfl|rfl<;>rfl
theorem pG(l:List RK):(l.flatMap rkCells).length=l.length*2:=by
 induction l with
 |nil=>rfl
 |cons p ps ih=>rw[List.flatMap_cons,e8,ih];simp[rkCells];omega
theorem kV(w:ft)(o:Obj)(x y:fx)(t:TypeId):∀j v,[x,y][j]?=X v->((w.alloc o).alloc (dx #[x,y] t)).drew.drew.cell? ((⟨w.heap.size+1,0,Y⟩:Addr).add j)=X v:=by
 have h:=cell_two_new (w.alloc o) x y t;rw[World.size_alloc]at h;exact h
theorem nV{w:ft}{B e k n:Nat}{v:fx}{a:List fx}(h:w.ownsRow B e k v n a):w.drew.drew.ownsRow B e k v n a:=h
theorem vi{w:ft}{B e k n:Nat}{v:fx}{b:List fx}{o a:Obj}(h:w.ownsRow B e k v n b):((w.alloc o).alloc a).ownsRow B e k v n b:=(h.alloc o).alloc a
theorem yg(F:Nat->Prop)(w:ft)(c:Nat)(z m2 m3:Option Nat)(kn:fx)(d:ar)(h:dU F w c z m2 m3 kn d):
 Calls prog 77 #[e6 (X ⟨c,0,Y⟩)] w λe w'=>∃v,e=e4 v/\w'.ownsRow w.heap.size 36 2 v ((thereC d).map (·.1)).length (((thereC d).map (·.1)).flatMap rkCells)/\Bw w w':=by
 obtain⟨ps,O,q2,q3⟩:=h.vs;have b3:cU ltRK (ps.map (·.1))=d.vs.map (·.1):=by rw[<- O,List.map_map];refine co aW (.refl _) ?_;have y:=h.ok.ok.vs;rw[<- O]at y;unfold aB at y;rw[List.pairwise_map]at y ⊢;exact y
 have a6:ps.length=d.vs.length:=by rw[<- O];simp
 have bO:=h.ok.vlen;have HK:=Z (A5 z w);have a3:Bw w (w.alloc (dx #[.map z] 113)):=(es _ w).alloc (ej _) _;have a8:=wO 8 (by omega) w.heap.size z (ps.map λp=>(p.1,jo p.1 p.2)) (w.alloc (dx #[.map z] 113)) (by rw[World.cell?_alloc_new];rfl) (q2.block (λb L=>a3.block b (h.lt b (h.f1 b L)))) (λb L=>by have:=h.lt b (h.f1 b L);simp;omega);have b5:(ps.map λp=>(p.1,jo p.1 p.2)).map (·.1)=ps.map (·.1):=by rw[List.map_map];rfl
 rw[b5]at a8;have P:=Z (jX 10 (by omega) 108 #[e6 (X ⟨w.heap.size,0,Y⟩)] (enters_of func108 (by kernel_rfl) rfl) (ps.map (·.1)) (by simp;omega) _ _ (λcc x hx=>by have:=hx.1;simp at this;omega) _ a8);rw[b3]at P;have a5:(ps.map (·.1)).length=(d.vs.map (·.1)).length:=by simp[a6]
 rw[a5]at P;have c0:w.cell? ⟨c,0,Y⟩=X (.map z):=(aa h.blk 0).trans rfl;have I:=Z h;have ao:=Z a3;have ay:=Z O;have bt:=Z q2;have bv:=Z q3;have bs:=Z a6;have bk:(w.alloc (dx #[.map z] 113)).heap.size=w.heap.size+1:=by simp
 have c1:=Z bk;clear a8 b5 b3 a5 h a3 O q2 q3 a6 bk;obtain⟨i0,hi,bb,bc,bd⟩:=info_parts i36;have HI:=Z hi;have au:=Z bb;have av:=Z bc;have ax:=Z bd;clear hi bb bc bd;obtain⟨s,R⟩:=Qe (d.vs.map (·.1));rw[R]at P;have a5:s.length<=5000:=by rw[<- R];simpa using bO
 have a1:=Z R;clear R;go_enter func77,ntmps77
 go_wp2_with (first
  |(go_at_call 61;((with_reducible refine eg HK.o ?_);rintro e w1⟨rfl,rfl⟩))
  |(go_at_call 47;((with_reducible refine eg P.o ?_);rintro e C⟨v,rfl,a7,b1⟩;obtain⟨va,vc,rfl⟩:=aQ a7;have bw:=Z a7;have bl:=Z b1;clear a7 b1)))
 have aS:Bw w C:=ao.trans (bl.mono ao.size);have A:=Z aS;clear aS;go_loopw [3,5,6,7,15] (λbY _p _a _b i wr=>∃(k:Nat)(G:Option Addr)(H:Nat)(g:List RK),k<=s.length/\i=J U k/\Hid (g=((d.vs.take k).filter (inC d)).map (·.1))/\bY=dz G g.length H/\Hid (wr.ownsRow (C.heap.size) 36 2 (dz G g.length H) g.length (g.flatMap rkCells))/\Hid (Bw C wr)) (λ_ _ _ _ i _=>s.length-(intOf i).toNat)
 exact⟨0,Y,0,[],eQ _,rfl,rfl,rfl,fl _ _ _ _,es _ _⟩;obtain⟨k,G,H,g,hk,rfl,K,rfl,E,t⟩:=hrel;by_cases hlt:k<s.length;rotate_left
 .have HE:Hid (g=(thereC d).map (·.1)):=by
   unfold Hid
   rw [K.o,qS,em (by have:s.length=d.vs.length:=by rw [<- a1.o];simp
                     omega)]
  go_wp2_with fail;go_ret;rw[<- HE.o];exact⟨_,rfl,aD E.o A.size,A.trans (t.mono A.size)⟩
 have a9:k<d.vs.length:=by rw[<- a1.o]at hlt;simpa using hlt
 have c9:k<ps.length:=by rw[bs.o];exact a9
 have aC:=Z ((aN bw.o).kept (w':=wr) (λq _ hq=>t.block q hq));have b7:ey 0 C.heap.size wr (dz va s.length vc) s:=aC.mono (eQ _) (ej _);obtain⟨b,cb,c2,he,_,c5,e0,e1⟩:=b7.one k hlt;cases he;have Q:Hid (d.vs.take (k+1)=d.vs.take k++[d.vs[k]]):=e9 a9;have b4:s[k]=d.vs[k].1:=by simp[<- a1.o]
 have B:=I.below (A.trans (t.mono A.size));obtain⟨p,hp⟩:=Qe (d.vs[k]);have V:p∈d.vs:=by rw[<- hp];exact er a9
 rw[hp]at Q b4;obtain⟨⟨a,f⟩,n,r⟩:=p;have b6:rkOk (a,f):=I.ok.vkey _ V;rw[b4]at e0 e1;dsimp only at e0 e1;have M:∃x,findK ps (a,f)=X ((n,r),x):=by
  rw[<- ay.o]at V;obtain⟨q,hq,he⟩:=List.mem_map.1 V;obtain⟨qk,qv,qx⟩:=q;injection he with h1 h2
  dsimp only at h1 h2;subst h1;subst h2;have y:=I.ok.ok.vs;rw[<- ay.o]at y;unfold aB at y;rw[List.pairwise_map]at y;exact⟨qx,(eT aW (l:=ps) y).2 hq⟩
 obtain⟨x,M⟩:=M;obtain⟨_,_,b2,_,_⟩:=bv _ (vD M);obtain⟨xa,xc,b9⟩:=b2.shape;dsimp only at b9;subst b9;clear b2;have b0:∀W,Bw wr W->(Instr.lookup 113 (.map z) (.agg #[J U a,J U f]) false).run prog W=.ok (.agg #[J U a,J U f,J U n,J dy r.kind.toNat,J dy r.level.toNat,dz xa r.fields.length xc]) W:=λW hW=>by have bB:Bw w W:=(A.o.trans (t.o.mono A.o.size)).trans (hW.mono (by have:=A.o.size;have:=t.o.size;omega));have:=cw.look (w:=W) (bt.block (λb L=>bB.block b (I.lt b (I.f1 b L)))) underlying113 lH (a,f) b6;rw[ge,M]at this;exact this
 have aT:∀W,Bw wr W->(Instr.lookup 114 (.map m2) (.agg #[J U a,J U f]) true).run prog W=.ok (.tuple #[J U ((findK d.ds (a,f)).getD 0),e5 (findK d.ds (a,f)).isSome]) W:=λW hW=>by have:=cw.look_ok (w:=W) ((B.below hW).ds) underlying114 xQ (a,f) b6;rw[fF d.ds (λn=>Value.int U n)]at this;refine Eq.trans this ?_;cases findK d.ds (a,f)<;>rfl
 have b8:∀o,Bw wr (wr.alloc o).drew:=λo=>((es _ wr).alloc (ej _) o).drew;have T:=λo=>aT _ (b8 o);have c7:=λo=>b0 _ (b8 o).drew;have c6:=λW=>xj a f n r.kind.toNat r.level.toNat (dz xa r.fields.length xc) W;have c4:∀o,(wr.alloc o).cell? ⟨c,1,Y⟩=X (.map m2):=λo=>by rw[bf _ _ _ _ (B.lt c B.fc)];exact(aa B.blk 1).trans rfl
 have c3:∀o,(wr.alloc o).cell? ⟨c,0,Y⟩=X (.map z):=λo=>by rw[bf _ _ _ _ (B.lt c B.fc)];exact(aa B.blk 0).trans rfl
 have c8:g.length<=5000:=by rw[K.o,List.length_map];have:=List.length_filter_le (inC d) (d.vs.take k);rw[e7]at this;omega
 have ac:=t.size;clear b0 aT M B b7 aC V hp;have u:Hid (inC d ((a,f),n,r)=match findK d.ds (a,f)with|some m=>decide (m<=n)|none=>true):=rfl;cases hf:findK d.ds (a,f)with
 |none=>
  rw[hf]at T u;dsimp only at u;simp only[Option.getD_none,Option.isSome_none]at T;clear hf;go_wp2_with fail;go_region;go_wp2_with fail;go_region;go_wp2_with (at_builtin;refine wpList_append_own_at _ rfl _ _ 52 rfl C.heap.size 36 i0 (.agg #[J U 0,J U 0]) 2 16 underlying52 HI.o au.o av.o ax.o rfl (by decide) (dz G g.length H) _ _ rfl (nV (vi E.o)) ⟨wr.heap.size+1,0,Y⟩ 1 1 [J U a,J U f] rfl rfl (kV _ _ _ _ _) (by simp[Value.oneCell']) (by unfold maxLen;omega) (by omega) (by simp;omega) ?_;intro v' w5 D N _ bA;obtain⟨ad,al,rfl⟩:=aG D;have a2:=Z D;have a0:=Z N;clear D N)
  go_roundw
  case rel=>
   refine⟨k+1,ad,al,g++[(a,f)],by omega,by go_num,?_,by simp,?_,?_⟩
   .unfold Hid;rw[Q.o,fr,fp,K.o];simp[u.o]
   .have:=a2.o;exact Z (by simpa[rkCells]using this)
   have a4:Bw C ((wr.alloc (dx #[J U a,J U f] 36)).alloc (dx #[J U a,J U f] 36)).drew.drew:=(((t.o.alloc ac _).alloc (by simp;omega) _).drew).drew;exact a4.grown a0.o (by simp;omega) (λj hj=>(E.o.lt j hj).1)
  simp[intOf];omega
 |some m=>
  rw[hf]at T u;dsimp only at u;simp only[Option.getD_some,Option.isSome_some]at T;clear hf;by_cases hmn:m<=n
  .rw[decide_eq_true hmn]at u;go_wp2_with fail;go_region;go_wp2_with fail;go_region;go_wp2_with (at_builtin;refine wpList_append_own_at _ rfl _ _ 52 rfl C.heap.size 36 i0 (.agg #[J U 0,J U 0]) 2 16 underlying52 HI.o au.o av.o ax.o rfl (by decide) (dz G g.length H) _ _ rfl (nV (vi E.o)) ⟨wr.heap.size+1,0,Y⟩ 1 1 [J U a,J U f] rfl rfl (kV _ _ _ _ _) (by simp[Value.oneCell']) (by unfold maxLen;omega) (by omega) (by simp;omega) ?_;intro v' w5 D N _ bA;obtain⟨ad,al,rfl⟩:=aG D;have a2:=Z D;have a0:=Z N;clear D N)
   go_roundw
   case rel=>
    refine⟨k+1,ad,al,g++[(a,f)],by omega,by go_num,?_,by simp,?_,?_⟩
    .unfold Hid;rw[Q.o,fr,fp,K.o];simp[u.o]
    .have:=a2.o;exact Z (by simpa[rkCells]using this)
    have a4:Bw C ((wr.alloc (dx #[J U a,J U f] 36)).alloc (dx #[J U a,J U f] 36)).drew.drew:=(((t.o.alloc ac _).alloc (by simp;omega) _).drew).drew;exact a4.grown a0.o (by simp;omega) (λj hj=>(E.o.lt j hj).1)
   simp[intOf];omega
  rw[decide_eq_false hmn]at u;go_wp2_with fail;go_region;go_wp2_with fail;go_region;go_wp2_with fail;go_roundw
  case rel=> refine⟨k+1,G,H,g,by omega,by go_num,?_,rfl,(E.o.alloc _),(t.o.alloc ac _).drew.drew⟩;unfold Hid;rw[Q.o,fr,fp,K.o];simp[u.o]
  simp[intOf];omega
end
end Go.Proofs.YtjcimanddakkaaaGreatDoor
