/- Lemmas. -/
import Derived.Test.YtjcimanddakkaaaGreatDoorCT19
set_option maxRecDepth 100000
set_option maxHeartbeats 8000000
namespace Go.Proofs.YtjcimanddakkaaaGreatDoor
open Go.Obj renaming cells→dd
open Go.Value renaming int→J,slice→dq,bool→dy
open Go.IntKind renaming u8→dk,i64→U
open _root_.Option renaming some→X,none→Y
open Go.Ending renaming returned→dx
open Go.Lib renaming hid→Z
open Tryz
open Go.Calls renaming mono→dz
open _root_.Nat renaming le_refl→eb,le_trans→er,zero_le→es
open _root_.List renaming take_of_length_le→eg,getElem_mem→ej,length_take→ex,length_append→eQ,take_succ_eq_append_getElem→e4,map_append→e7,filter_append→e8,mem_append→e9,flatMap_append→fr,mem_singleton→fs
open Go.RowKit.Below renaming refl→em,heap_alloc→e6
open Go.World renaming ownsRow_nil→e5,alloc_heap_new→fp
open Go renaming World→fl,Value→fn
section
open Go.RowKit Go.Maps Go.Shelf
attribute [local go_sem] Oper.semAt_some
theorem lc(k l:UInt8)(x:fn)(b:List ag)(w:fl)(h:ah 0 w w x b):∃a d e,w.alloc (dd #[J dk k,J dk l,x] 62)=a/\x=dq d b e/\Bw w a/\a.heap.size=w+1/\
 ∀W,Bw a W->(W.cell? w=X (J dk k)/\W.cell? ⟨w,1,Y⟩=X (J dk l)/\W.cell? ⟨w,2,Y⟩=X x)/\ah 0 w W x b:=by
 obtain⟨d,e,i⟩:=h.shape;have g:Bw w (w.alloc (dd #[J dk k,J dk l,x] 62)):=(em _ w).alloc (eb _) _;have j:(w.alloc (dd #[J dk k,J dk l,x] 62)).heap.size=w+1:=by simp
 refine⟨_,d,e,rfl,i,g,j,λW f=>⟨?_,h.kept (aW (btr g f (by omega)) (eb _))⟩⟩;have c:W.heap[w.heap.size]?=X (dd #[J dk k,J dk l,x] 62 (0,0)):=(f.block _ (by omega)).trans (fp w _);exact⟨by rw[ab c];rfl,by rw[ab c];rfl,by rw[ab c];rfl⟩
theorem oD(k l:UInt8)(x:fn)(a:List ag)(w:fl)(hs:ah 0 w w x a)(a2:br a):
 Calls prog 149 #[.agg #[J dk k,J dk l,x]] w λe w'=>∃v,e=dx v/\w'.ownsRow w 9 1 v (booksR a).length ((booksR a).map λs=>S s)/\Bw w w':=by
 obtain⟨u,xa,xc,az,rfl,a7,aa,a3⟩:=lc k l x a w hs;have HX:=Z a3;have a5:=Z a7;have P:=Z aa;have a6:=Z a2;have al:=Z (λq=>dt a q a2);obtain⟨n,hn⟩:=Qe a.length;have HN:=Z hn;have b5:n<=1000000:=hn▸a2.1;rw[hn]at a3 az HX ⊢;clear hs a2 a3 a7 aa hn;go_enter func149,ntmps149;go_wp2_with fail;go_loopw [3,4] (λv i wr=>∃(q:Nat)(o:Option Addr)(p:Nat),q<=n/\v=.slice o (booksR (a.take q)).length p/\i=J U q/\Hid (wr.ownsRow u 9 1 (.slice o (booksR (a.take q)).length p) (booksR (a.take q)).length ((booksR (a.take q)).map λs=>S s))/\Hid (Bw u wr)) (λ_ i _=>n-(intOf i).toNat)
 exact⟨0,Y,0,es _,rfl,rfl,e5 _ _ _ _,em _ _⟩;obtain⟨q,o,p,hq,rfl,rfl,A,f⟩:=hrel;obtain⟨⟨_,_,b2⟩,a8⟩:=HX wr f.o;by_cases hlt:q<n;rotate_left
 .have e:a.take q=a:=eg (by rw[HN.o];omega);rw[e]at A;rw[e];clear a8;go_wp2_with fail;go_ret;exact⟨_,rfl,aD A.o (by have:=P.o;omega),btr a5.o f.o a5.o.size⟩
 have R:q<a:=by rw[HN.o];exact hlt
 have i1:(q:Int)<n:=by omega
 have au:Hid (booksR (a.take (q+1))=booksR (a.take q)++bookS a[q].tag a[q].subs):=by unfold Hid booksR;rw[e4 R,fr];simp[il]
 have b3:=al q;have b6:a[q].subs.length<=1000000:=er (cr _) (a6.2 _ (ej R));have av:Hid (∀s∈a[q].subs,s.text.length<=1000000):=λs hs=>iX (a6.2 _ (ej R)) hs;have K:Hid (∃B G,xa=some ⟨B,G,Y⟩/\∃E Q,∀W,Bw u W->W.cell? ⟨w,2,Y⟩=some (dq xa n xc)/\W.cell? ⟨B,G+q*4,Y⟩=some (S a[q].tag)/\W.cell? ⟨B,G+q*4+3,Y⟩=some (.slice E a[q].subs.length Q)/\aE 0 w W (.slice E a[q].subs.length Q) a[q].subs):=by
  obtain⟨B,G,b1,d,hv,_,b4,c0,_,_,c3,F⟩:=(HX u (em _ _)).2.field q R;obtain⟨E,Q,rfl,_⟩:=id F;injection hv with e1 e2 e3
  refine⟨B,G,e1,E,Q,λW D=>⟨(HX.o W D).1.2.2,?_,?_,aE.kept F (aW D (by have:=P.o;omega))⟩⟩
  .rw[(aq D).1 B _ (by have:=P.o;omega)];exact c0
  rw[(aq D).1 B _ (by have:=P.o;omega)];exact c3
 obtain⟨B,G,rfl,E,Q,hf⟩:=K.o;have K:=Z hf;obtain⟨_,t0,t3,_⟩:=hf wr f.o;generalize booksR (a.take q)=L at*;generalize a[q].tag=T at*;generalize a[q].subs=ss at*;clear a8 hf R;go_wp2_with fail;go_loopw [3,5] (λv i wr=>∃(j:Nat)(o:Option Addr)(p:Nat),j<=ss/\v=.slice o (L++bookS T (ss.take j)).length p/\i=J U j/\Hid (wr.ownsRow u 9 1 (.slice o (L++bookS T (ss.take j)).length p) (L++bookS T (ss.take j)).length ((L++bookS T (ss.take j)).map λs=>S s))/\Hid (Bw u wr)) (λ_ i _=>ss-(intOf i).toNat)
 case atStart=>
  have e:L++bookS T (ss.take 0)=L:=by unfold bookS;simp
  exact⟨0,o,p,es _,by rw[e],rfl,by rw[e];exact A.o,f.o⟩
 obtain⟨j,o,p,hj,rfl,rfl,A,f⟩:=hrel;obtain⟨b2,t0,t3,F⟩:=K wr f.o;by_cases hgo:j<ss/\T=dh;rotate_left
 .have HE:Hid (booksR (a.take (q+1))=L++bookS T (ss.take j)):=by
   unfold Hid;rw[au.o];congr 1
   by_cases y:T=dh
   .rw[eg (by have:¬j<ss:=λh=>hgo ⟨h,y⟩;omega)]
   unfold bookS;rw[if_neg y,if_neg y]
  have hx:((j:Int)<ss/\(T==[48,50,48])=false)∨¬(j:Int)<ss:=by
   by_cases h:j<ss
   .exact .inl ⟨by omega,by simpa[dh]usingλy=>hgo ⟨h,y⟩⟩
   exact .inr (by omega)
  generalize L++bookS T (ss.take j)=M at*;clear hgo F;rcases hx with⟨h1,h2⟩|h1
  all_goals
   go_wp2_with fail
   go_roundw
   case rel=>exact⟨q+1,o,p,by omega,by rw[HE.o],by go_num,by unfold Hid;rw[HE.o];exact A.o,f.o⟩
   case measure=>simp[intOf];omega
 obtain⟨a1,y⟩:=hgo;have i2:(j:Int)<ss:=by omega
 have i3:(T==[48,50,48])=true:=by rw[y];rfl
 have b:Hid (L++bookS T (ss.take (j+1))=(L++bookS T (ss.take j))++(if ss[j].code=97 then(isbnR ss[j].text).toList else[])):=by unfold Hid;rw[gD T ss j a1,List.append_assoc];simp[y]
 have a9:=fU T (ss.take j);rw[ex]at a9;have ao:Hid ((L++bookS T (ss.take j)).length<=1000001000000):=by unfold Hid;rw[eQ];omega
 have z:=Z (λW=>vP ss[j].text W (av _ (ej a1)));have a0:Hid (∃m H,E=some ⟨m,H,Y⟩/\∀W,Bw u W->W.cell? ⟨m,H+j*2,Y⟩=some (J dk ss[j].code.toNat)/\W.cell? ⟨m,H+j*2+1,Y⟩=some (S ss[j].text)):=by
  obtain⟨m,H,c,hv,_,V,s0,s1⟩:=F.sub j a1;injection hv with e1 e2 e3
  have V:m<u:=by have:=P.o;omega
  exact⟨m,H,e1,λW D=>by rw[(aq D).1 m _ V,(aq D).1 m _ V,<- (aq f.o).1 m _ V,<- (aq f.o).1 m _ V];exact⟨s0,s1⟩⟩
 obtain⟨m,H,rfl,a4⟩:=a0.o;have a0:=Z a4;obtain⟨s0,s1⟩:=a4 wr f.o;generalize L++bookS T (ss.take j)=M at*;obtain⟨r,hr⟩:=Qe (isbnR ss[j].text);rw[hr]at z b;generalize ss[j].text=X at*;generalize ss[j].code=C at*;clear y hr a4 F a9 a1;have HG:Hid (∀W,Bw wr W->Bw u W):=λW h=>btr f.o h f.size;rcases r with _|N
 .have b:Hid (L++bookS T (ss.take (j+1))=M):=b.o.trans (by simp);have z:Hid (∀W,Calls prog 96 #[S X] W λe w'=>e=dx (.tuple #[S [],dy false])/\Bw W w'):=z.o;go_wp2_with (go_at_call 96;(refine dz (z.o _) ?_;rintro e I⟨rfl,g⟩;have t:=Z (HG.o _ g);have O:=Z (ap A.o g);clear g))
  go_roundw;exact⟨j+1,o,p,by omega,by rw[b.o],by go_num,by unfold Hid;rw[b.o];exact O.o,t.o⟩;simp[intOf];omega
 have z:Hid (∀W,Calls prog 96 #[S X] W λe w'=>e=dx (.tuple #[S N,dy true])/\Bw W w'):=z.o;by_cases hC:C=97
 .have b:Hid (L++bookS T (ss.take (j+1))=M++[N]):=b.o.trans (by simp[hC]);have i4:((C.toNat:Int)==97)=true:=by rw[hC];rfl
  clear hC
  go_wp2_with (first
   |(go_at_call 96;((with_reducible refine dz (z.o _) ?_);rintro e I⟨rfl,g⟩;have t:=Z (HG.o _ g);have O:=Z (ap A.o g);obtain⟨ay,_,aS,_⟩:=K.o I t.o;obtain⟨aC,_⟩:=a0.o I t.o;clear g))
   |(at_builtin;refine na [S N] O.o t.o (eb _) underlying81 i9 ?_ (hn:=by have:=ao.o;omega);intro aT b0 w6 ho hb;have ax:=Z ho;have ac:=Z hb;clear ho hb))
  go_roundw;exact⟨j+1,aT,b0,by omega,by rw[b.o];simp,by go_num,by unfold Hid;rw[b.o];have:=ax.o;simpa using this,ac.o⟩;simp[intOf];omega
 have b:Hid (L++bookS T (ss.take (j+1))=M):=b.o.trans (by simp[hC]);have i4:((C.toNat:Int)==97)=false:=beq_eq_false_iff_ne.2 λh=>hC (UInt8.toNat_inj.1 (Int.ofNat.inj h));clear hC;go_wp2_with (go_at_call 96;(refine dz (z.o _) ?_;rintro e I⟨rfl,g⟩;have t:=Z (HG.o _ g);have O:=Z (ap A.o g);obtain⟨ay,_,aS,_⟩:=K.o I t.o;obtain⟨aC,_⟩:=a0.o I t.o;clear g))
 go_roundw
 case rel=>exact⟨j+1,o,p,by omega,by rw[b.o],by go_num,by unfold Hid;rw[b.o];exact O.o,t.o⟩
 simp[intOf];omega
attribute [local go_sem] Oper.semAt_some
theorem mM(s:Bs)(w:fl)(I:s.length<=1000000):Calls prog 203 #[S s] w λe w'=>e=dx (aP (s.take 4))/\w=w':=by
 by_cases hl:s.length<4
 .have g:Hid (aP (s.take 4)= -1):=by unfold Hid aP;rw[if_neg (λh=>by have:=h.1;rw[ex]at this;omega)]
  have j:(s.length:Int)<4:=by omega
  clear hl;go_enter func203,ntmps203;go_wp2_with fail;go_ret;exact⟨aI g.symm,rfl⟩
 obtain⟨t,m⟩:=Qe (s.take 4);have x:t.length=4:=by rw[<- m,ex];omega
 have u:=Z x;have B:Hid (∀k(h:k<4),∃(b:k<s.length)(l:k<t.length),s[k]=t[k]):=λk h=>⟨by omega,by omega,by subst m;rw[List.getElem_take]⟩;have g:Hid (aP t=if t.all digitB=true then foldN t else -1):=by unfold Hid aP;simp only[x,true_and];rfl
 have j:¬(s.length:Int)<4:=by omega
 rw[m];clear m x hl;go_enter func203,ntmps203;go_wp2_with fail;go_loop [3,4] (λn i=>∃k:Nat,k<=4/\i=J U k/\n=J U (foldN (t.take k))/\Hid ((t.take k).all digitB=true)) (λ_ i=>4-(intOf i).toNat)
 case atStart=>exact⟨0,es _,rfl,rfl,rfl⟩
 obtain⟨k,E,rfl,rfl,f⟩:=hrel;have d:=mI (t.take k) (λc a=>by have:=f.o;rw[List.all_eq_true]at this;exact this c a) k (by rw[ex,u.o];omega);rw[List.take_take,Nat.min_self]at d;have H:foldN (t.take k)<10000:=Int.lt_of_lt_of_le d.2 (by
  have:(10:Nat)^k<=10^4:=Nat.pow_le_pow_right (by omega) (by omega);have l:(((10:Nat)^k:Nat):Int)<=((10^4:Nat):Int):=by exact_mod_cast this
  simpa using l)
 have G:=d.1;clear d;by_cases hlt:k<4;rotate_left
 .rw[eg (by rw[u.o];omega)]at f;have C:Hid (foldN (t.take k)=foldN t):=by unfold Hid;rw[eg (by rw[u.o];omega)]
  generalize foldN (t.take k)=q at*;go_wp2_with fail;go_ret;exact⟨aI (by rw[g.o,if_pos f.o,C.o]),rfl⟩
 obtain⟨F,v,A⟩:=B k hlt;have r:=Z (jh t k v);have y:=Z (o6 (p:=digitB) t k v);have z:Hid (t[k]∈t):=ej v;rw[<- A]at r y z;generalize foldN (t.take k)=q at*;clear A;by_cases a:digitB s[k]=true
 .have o:=Z a;obtain⟨j,b⟩:=c8 a;obtain⟨c,D⟩:=Qe (s[k].toNat);rw[D]at j b r;have K:IntKind.u8.wrap ((c:Int)-48)=(c:Int)-48:=by unfold IntKind.wrap;simp[IntKind.signed,IntKind.bits];omega
  have l:¬(c:Int)<48:=by omega
  have d:¬(57:Int)<(c:Int):=by omega
  clear a j b;go_wp2_with fail;go_round
  case rel=>exact⟨k+1,by omega,by go_num,by rw[r.o],by unfold Hid;rw[y.o,f.o,o.o];rfl⟩
  simp[intOf];omega
 have o:Hid (aP t= -1):=by refine g.trans (if_neg λh=>?_);rw[List.all_eq_true]at h;exact a (h _ z.o)
 have b:(s[k].toNat:Int)<48∨(¬(s[k].toNat:Int)<48/\(57:Int)<(s[k].toNat:Int)):=by unfold digitB at a;simp only[Bool.and_eq_true,decide_eq_true_eq]at a;omega
 clear a;rcases b with b|⟨l,b⟩
 all_goals
  go_wp2_with fail
  go_ret
  exact⟨aI o.symm,rfl⟩
theorem m9(k l:UInt8)(x:fn)(a:List ag)(w:fl)(B:ah 0 w w x a)(o:br a):
 Calls prog 150 #[.agg #[J dk k,J dk l,x]] w λe w'=>∃v,e=dx v/\w'.ownsRow w 9 1 v (bi a).length ((bi a).map λs=>S s)/\Bw w w':=by
 obtain⟨t,xa,xc,a3,rfl,u,a4,z⟩:=lc k l x a w B;obtain⟨⟨P,Q,R⟩,A⟩:=z t (em _ _);have p:=Z (jN k l _ a [49,48,48] t (A.mono (eb _) (by omega)) o.1);have L:=Z (jv o [49,48,48] [97] (by decide) _ rfl);have K:=Z (λW=>jY (textF (firstF a [49,48,48]) [97]) W (cM o _ _));have I:Hid (bi a=wordsR (textF (firstF a [49,48,48]) [97])):=rfl;have G:Hid ((firstF a [49,48,48]).isSome=false->wordsR (textF (firstF a [49,48,48]) [97])=[]):=λh=>by rw[Option.isSome_eq_false_iff,Option.isNone_iff_eq_none]at h;rw[h];rfl
 have m:=Z u;rw[I.o];clear B o u z A;unfold gM at p;generalize(firstF a [49,48,48]).isSome=bs at*;generalize textF (firstF a [49,48,48]) [97]=T at*;generalize(firstF a [49,48,48]).getD zeroF=g at*;obtain⟨gt,gi,V,gs⟩:=g;generalize a.length=n at*;cases bs
 .have F:=Z (G rfl);go_enter func150,ntmps150;go_wp2_with (go_at_call 99;(refine dz p.o ?_;rintro e r⟨⟨v,rfl,d,rfl,f⟩,j⟩;obtain⟨M,N,rfl,_⟩:=id f;have i:=Z j;clear f j))
  go_ret;rw[F.o];have c:Bw w r:=m.trans (i.mono m.size);exact⟨_,rfl,e5 _ _ _ _,c.alloc c.size _⟩
 go_enter func150,ntmps150
 go_wp2_with (first
  |(go_at_call 99;((with_reducible refine dz p.o ?_);rintro e r⟨⟨v,rfl,d,rfl,f⟩,j⟩;obtain⟨M,N,rfl,_⟩:=id f;have E:=Z f;have i:=Z j;clear f j))
  |(go_at_call 101;((with_reducible refine dz (L.o _ _ ?_) ?_);(focus exact(E.o.kept (λk _ O=>e6 _ _ _ (Nat.lt_of_lt_of_le O i.o.size))).mono (eb _) (by have:=i.o.size;simp;omega));rintro e w4⟨rfl,b⟩;have C:=Z b;clear b))
  |(go_at_call 100;((with_reducible refine dz (K.o _) ?_);rintro e w5⟨v5,rfl,q,y⟩;obtain⟨va,vc,rfl⟩:=aw q;have H:=Z q;have D:=Z y;clear q y)))
 go_ret;have c:Bw w r:=m.trans (i.mono m.size);have b:=(c.alloc c.size _).trans (C.o.mono (by have:=c.size;simp;omega));exact⟨_,rfl,aD H.o b.size,b.trans (D.mono b.size)⟩
attribute [local go_sem] Oper.semAt_some
theorem qR(k l:UInt8)(x:fn)(a:List ag)(w:fl)(hs:ah 0 w w x a)(u:br a):
 Calls prog 152 #[.agg #[J dk k,J dk l,x]] w λe w'=>e=dx (bx a)/\Bw w w':=by
 obtain⟨s,R,xc,ay,rfl,a5,aC,Q⟩:=lc k l x a w hs;have L:Hid (∀(a8:Bs)(W:fl),Bw s W->_):=λa8 W h=>jN k l _ a a8 W ((Q W h).2.mono (eb _) (by have:=h.size;omega)) u.1;have A:=Z (L.o [48,48,56] s (em _ _));have I:=Z (L.o [50,54,48]);have HX:=Z (jv u [50,54,48] [99] (by decide) _ rfl);have j:Hid (∀W,Bw s W->W.cell? w=X (J dk k)/\W.cell? ⟨w,1,Y⟩=X (J dk l)/\W.cell? ⟨w,2,Y⟩=X (dq R a xc)):=λW h=>(Q W h).1;have p:=Z a5;obtain⟨a0,a1,a2⟩:=j s (em _ _);have a4:=cM u [50,54,48] [99];have av:((firstF a [48,48,56]).getD zeroF).data.length<=1000000:=by
  cases h:firstF a [48,48,56]with
  |none=>exact es _
  |some f=>have:=u.2 f (eY h);simp only[Option.getD_some,fieldBytes,eQ]at this ⊢;omega
 have N:Hid (fE a=if(firstF a [48,48,56]).isSome=true/\11<=((firstF a [48,48,56]).getD zeroF).data.length then aP ((((firstF a [48,48,56]).getD zeroF).data.drop 7).take 4)else -1):=by
  unfold Hid fE;show(match firstF a [48,48,56]with|some f=>_|none=>_)=_;cases firstF a [48,48,56]with
  |none=>rfl
  |some f=>simp[CB,List.take_drop]
 have M:Hid (bx a=if 0<=fE a then fE a else bu (textF (firstF a [50,54,48]) [99])):=rfl;have al:Hid ((firstF a [50,54,48]).isSome=false->bu (textF (firstF a [50,54,48]) [99])= -1):=λh=>by rw[Option.isSome_eq_false_iff,Option.isNone_iff_eq_none]at h;rw[h];rfl
 clear hs u a5 Q L;unfold gM at I A;generalize(firstF a [50,54,48]).isSome=b6 at*;generalize(firstF a [48,48,56]).isSome=b8 at*;generalize textF (firstF a [50,54,48]) [99]=T at*;generalize(firstF a [50,54,48]).getD zeroF=g6 at*;generalize(firstF a [48,48,56]).getD zeroF=g8 at*;obtain⟨t6,i6,d6,s6⟩:=g6;obtain⟨t8,i8,m,s8⟩:=g8;dsimp only at*;generalize a.length=n at*;have H:=Z (λW=>mM (m.drop 7) W (by rw[List.length_drop];omega));generalize aP ((m.drop 7).take 4)=nf at*;have a3:=Z a4;clear a4 av;by_cases hA:b8=true/\11<=m.length/\0<=nf
 .obtain⟨rfl,P,a7⟩:=hA;have ao:Hid (bx a=nf):=by have:=N.trans (if_pos ⟨rfl,P⟩);unfold Hid;rw[M.o,this,if_pos a7]
  have ax:(11:Int)<=(m.length:Int):=by omega
  go_enter func152,ntmps152
  go_wp2_with (first
   |(go_at_call 99;((with_reducible refine dz A.o ?_);rintro e y⟨⟨v,rfl,d,rfl,c⟩,b⟩;obtain⟨D,E,rfl,_⟩:=id c;have a9:=Z b;clear c b))
   |(go_at_call 203;((with_reducible refine dz (H.o _) ?_);rintro e G⟨rfl,rfl⟩)))
  go_ret;have t:Bw w y:=p.trans (a9.mono p.size);exact⟨aI ao.symm,t.alloc t.size _⟩
 have O:Hid (bx a=bu T):=by
  refine M.trans (if_neg λh=>?_);rw[N.o]at h;split at h
  .rename_i F;exact hA ⟨F.1,F.2,h⟩
  omega
 have au:b8=false∨(b8=true/\¬(11:Int)<=(m.length:Int))∨(b8=true/\(11:Int)<=(m.length:Int)/\¬0<=nf):=by
  cases b8
  .exact .inl rfl
  refine .inr ?_;by_cases h:(11:Int)<=(m.length:Int)
  .exact .inr ⟨rfl,h,λF=>hA ⟨rfl,by omega,F⟩⟩
  exact .inl ⟨rfl,h⟩
 clear hA M N;rcases au with rfl|⟨rfl,P⟩|⟨rfl,P,a7⟩
 all_goals
  go_enter func152,ntmps152
  cases b6
  .have HE:=Z (al rfl)
   go_wp2_with (first
    |(go_at_call 99;((with_reducible refine dz A.o ?_);rintro e y⟨⟨v,rfl,d,rfl,c⟩,b⟩;obtain⟨D,E,rfl,_⟩:=id c;have g:Hid (∀o,Bw s (y.alloc o)):=λo=>b.alloc b.size o;have R:=λo=>(j.o _ (g.o o)).1;have xb:=λo=>(j.o _ (g.o o)).2.1;have xd:=λo=>(j.o _ (g.o o)).2.2;clear c b))
    |(go_at_call 203;((with_reducible refine dz (H.o _) ?_);rintro e G⟨rfl,rfl⟩))
    |(go_at_call 99;((with_reducible refine dz (I.o _ (g.o _)) ?_);rintro e w5⟨⟨v,rfl,d,rfl,c⟩,b⟩;obtain⟨D,E,rfl,_⟩:=id c;have r:=Z (btr (g.o _) b (g.o _).size);clear c b)))
   go_ret
   have t:Bw w w5:=p.trans (r.mono p.size)
   exact⟨aI (by rw[O.o,HE.o]),t.alloc t.size _⟩
  .go_wp2_with (first
    |(go_at_call 99;((with_reducible refine dz A.o ?_);rintro e y⟨⟨v,rfl,d,rfl,c⟩,b⟩;obtain⟨D,E,rfl,_⟩:=id c;have g:Hid (∀o,Bw s (y.alloc o)):=λo=>b.alloc b.size o;have R:=λo=>(j.o _ (g.o o)).1;have xb:=λo=>(j.o _ (g.o o)).2.1;have xd:=λo=>(j.o _ (g.o o)).2.2;clear c b))
    |(go_at_call 203;((with_reducible refine dz (H.o _) ?_);rintro e G⟨rfl,rfl⟩))
    |(go_at_call 99;((with_reducible refine dz (I.o _ (g.o _)) ?_);rintro e w5⟨⟨v,rfl,d,rfl,c⟩,b⟩;obtain⟨D,E,rfl,_⟩:=id c;have ac:=Z (c.mono (eb _) b.size);have r:=Z (btr (g.o _) b (g.o _).size);clear c b))
    |(go_at_call 101;((with_reducible refine dz (HX.o _ _ ?_) ?_);(focus exact(ac.o.kept (λk _ h3=>e6 _ _ _ h3)).mono (eb _) (by simp));rintro e w4⟨rfl,a6⟩;have aa:Hid (Bw w w4):=p.o.trans ((btr (r.o.alloc r.o.size _) a6 (r.o.alloc r.o.size _).size).mono p.o.size);clear a6)))
   go_loopw [8] (λi wr=>∃q:Nat,q<=T.length/\i=J U q/\Hid (bu T=bu (T.drop q))/\Hid (Bw w wr)) (λi _=>T.length-(intOf i).toNat)
   case' atStart=>exact⟨0,es _,rfl,rfl,aa.o⟩
   case' round=>
    obtain⟨q,hq,rfl,C,K⟩:=hrel
    by_cases hlt:q<T.length
    .have i1:(q:Int)<T.length:=by omega
     have az:=a3.o
     have B:=Z (fm T q hlt)
     have V:=Z (λW=>mM (T.drop q) W (by have:=a3.o;rw[List.length_drop];omega))
     generalize aP ((T.drop q).take 4)=z at*
     by_cases hz:0<=z
     .rw[if_pos hz]at B
      go_wp2_with (go_at_call 203;(refine dz (V.o _) ?_;rintro e G⟨rfl,rfl⟩))
      go_ret
      exact⟨aI (by rw[O.o,C.o,B.o]),K.o⟩
     .rw[if_neg hz]at B
      go_wp2_with (go_at_call 203;(refine dz (V.o _) ?_;rintro e G⟨rfl,rfl⟩))
      go_roundw
      case' rel=>exact⟨q+1,hlt,by go_num,by unfold Hid;rw[C.o,B.o],K.o⟩
      case' measure=>simp[intOf];omega
    .rw[List.drop_of_length_le (by omega)]at C
     go_wp2_with fail
     go_ret
     exact⟨aI (by rw[O.o,C.o];rfl),K.o⟩
attribute [local go_sem] Oper.semAt_some
theorem Ap{s N:Bs}(h:isbnR s=X N):N.length<=1000:=er (ev h) (by decide)
theorem C4(k l:UInt8)(x:fn)(f:List ag)(w:fl)(hs:ah 0 w w x f)(R:br f):
 Calls prog 53 #[.agg #[J dk k,J dk l,x]] w λe w'=>∃(v:fn)(L:List Bs),e=dx v/\w'.ownsRow w 9 1 v L.length (L.map λs=>S s)/\(∀y,y∈L↔y∈rawR f)/\L.length<=1000000000001/\Bw w w':=by
 obtain⟨p,xa,xc,cu,rfl,c5,a2,aT⟩:=lc k l x f w hs;have HX:=Z aT;have ay:=Z c5;have c4:=Z a2;have bB:=Z R;have bw:=Z (λq=>dt f q R);have b6:Hid (∀W,Bw p W->ah 0 W W (dq xa f xc) f):=λW h=>(aT W h).2.mono (eb _) (by have:=h.size;omega);have a5:Hid (∀W,Bw p W->_):=λW h=>lV k l _ f W (b6 W h) R;have ax:Hid (∀W,Bw p W->_):=λW h=>jN k l _ f [49,48,48] W (b6 W h) R.1;have bO:=Z (jv R [49,48,48] [97] (by decide) _ rfl);have bY:=Z (λW=>jY (textF (firstF f [49,48,48]) [97]) W (cM R _ _));have aa:Hid (rawR f=(booksR f).map isbnK++(if aN f=[]then[]else[j6 f])):=rfl;have bb:Hid (j6 f=[116,105,116,108,101,32]++aN f++[32,47,32]++(wordsR (textF (firstF f [49,48,48]) [97])).headD []):=rfl;have d9:=j5 f R;have aC:∀y∈wordsR (textF (firstF f [49,48,48]) [97]),y.length<=10000000:=λy hy=>by have:=gR _ y hy;have:=cM R [49,48,48] [97];omega
 have cd:=Z aC;obtain⟨n,hn⟩:=Qe f.length;have HN:=Z hn;have d6:n<=1000000:=hn▸R.1;rw[hn]at aT cu HX a5 ax ⊢;unfold gM at ax;clear hs R aT c5 a2 hn b6 aC;generalize aN f=TT at*;generalize wordsR (textF (firstF f [49,48,48]) [97])=AA at*;generalize textF (firstF f [49,48,48]) [97]=TX at*;generalize(firstF f [49,48,48]).getD zeroF=g1 at*;generalize(firstF f [49,48,48]).isSome=b1 at*;obtain⟨t1,i1,d1,s1⟩:=g1;dsimp only at*;go_enter func53,ntmps53;go_wp2_with fail;go_loopw [3,4] (λv i wr=>∃(q:Nat)(L:List Bs)(B:Option Addr)(E:Nat),q<=n/\v=dq B L.length E/\i=J U q/\Hid (wr.ownsRow p 9 1 (dq B L.length E) L.length (L.map λs=>S s))/\Hid (Bw p wr)/\Hid (∀y,y∈L↔y∈(booksR (f.take q)).map isbnK)/\Hid (L.length<=(booksR (f.take q)).length)) (λ_ i _=>n-(intOf i).toNat)
 exact⟨0,[],Y,0,es _,rfl,rfl,e5 _ _ _ _,em _ _,by unfold Hid;simp[booksR],es _⟩;obtain⟨q,L0,B,E,hq,rfl,rfl,HO,A,O,HL⟩:=hrel;obtain⟨⟨b0,bl,b2⟩,bs⟩:=HX wr A.o;by_cases hlt:q<n;rotate_left
 .have e:f.take q=f:=eg (by rw[HN.o];omega);have aS:=bw q;rw[e]at O HL aS;have a6:Hid (L0.length<=1000000000000):=er HL.o aS;have cz:q=n:=by omega
  subst cz;have a2:=ay.size;clear bs e aS;have a5:=Z (a5 wr A.o);by_cases t:TT=[]
  .subst t;rw[if_pos rfl,List.append_nil]at aa;go_wp2_with (go_at_call 98;(refine dz a5.o ?_;rintro e w4⟨rfl,H⟩;have F:=Z (btr A.o H A.o.size);have a8:=Z (ap HO.o H);clear H))
   go_ret;exact⟨dq B L0.length E,L0,rfl,aD a8.o a2,λy=>by rw[aa.o];exact O.o y,er a6.o (by decide),btr ay.o F.o a2⟩
  rw[if_neg t]at aa;have d4:(TT==[])=false:=by simpa using t
  obtain⟨a,ha⟩:=Qe (AA.headD []);rw[ha]at bb;have aC:a.length<=10000000:=by
   rw[<- ha];cases AA with
   |nil=>exact es _
   |cons b r=>exact cd b List.mem_cons_self
  have cb:Hid (AA.length=0->a=[]):=λh=>by rw[<- ha,List.eq_nil_of_length_eq_zero h];rfl
  have cc:Hid (∀h:0<AA.length,AA[0]=a):=λh=>by
   rw[<- ha];cases AA with
   |nil=>exact absurd h (by simp)
   |cons b r=>rfl
  clear t ha;by_cases hm:0<AA.length
  .have cv:(0:Int)<AA.length:=by omega
   have bA:=Z hm;clear hm
   go_wp2_with (first
    |(go_at_call 98;((with_reducible refine dz a5.o ?_);rintro e w4⟨rfl,H⟩;have F:=Z (btr A.o H A.o.size);have a8:=Z (ap HO.o H);obtain⟨⟨x0,x1,x2⟩,_⟩:=HX.o w4 F.o;clear H))
    |(go_at_call 99;((with_reducible refine dz (ax.o _ F.o) ?_);rintro e w2⟨⟨v,rfl,d,rfl,hd⟩,u⟩;obtain⟨ad,cp,rfl,_⟩:=id hd;have b5:=Z (hd.mono (eb _) u.size);have m:=Z (btr F.o u F.o.size);have a7:=Z (ap a8.o u);clear hd u))
    |(go_at_call 101;((with_reducible refine dz (bO.o _ _ ?_) ?_);(focus exact(b5.o.kept (λk _ h3=>e6 _ _ _ h3)).mono (eb _) (by simp));rintro e V⟨rfl,g⟩;have o:Hid (Bw p V):=btr (m.o.alloc m.o.size _) g (m.o.alloc m.o.size _).size;have a1:=Z (ap (a7.o.alloc _) g);clear g))
    |(go_at_call 100;((with_reducible refine dz (bY.o _) ?_);rintro e w6⟨v6,rfl,Q,P⟩;obtain⟨wa,wc,rfl⟩:=aw Q;obtain⟨pb,po,pc,cy,_,_,cx⟩:=db.at (aM Q) 0 bA.o;(injection cy with p1 _ p3);subst p1;rw[cc.o bA.o,Nat.add_zero]at cx;have a0:Hid (Bw p w6):=btr o.o P o.o.size;have a9:=Z (ap a1.o P);clear Q P))
    |(go_at_call 97;((with_reducible refine dz (ud _ L0 _ p _ a9.o ?_ ?_) ?_);(focus exact a0.o.size);(focus exact er a6.o (by decide));rintro e w7⟨v7,L7,rfl,a3,ao,al,ac⟩;obtain⟨bt,bv,rfl⟩:=aw a3;have b9:=Z a3;have b8:=Z ao;have b7:=Z al;have b4:Hid (Bw p w7):=btr a0.o ac a0.o.size;clear a3 ao al ac)))
   go_ret;refine⟨dq bt L7.length bv,L7,rfl,aD b9.o a2,λy=>?_,er b7.o (Nat.succ_le_succ a6.o),btr ay.o b4.o a2⟩;rw[b8.o y,aa.o,e9,fs,bb.o,O.o y];simp
  have cv:¬(0:Int)<AA.length:=by omega
  have ha:=cb.o (by omega);subst ha;clear hm aC
  go_wp2_with (first
   |(go_at_call 98;((with_reducible refine dz a5.o ?_);rintro e w4⟨rfl,H⟩;have F:=Z (btr A.o H A.o.size);have a8:=Z (ap HO.o H);obtain⟨⟨x0,x1,x2⟩,_⟩:=HX.o w4 F.o;clear H))
   |(go_at_call 99;((with_reducible refine dz (ax.o _ F.o) ?_);rintro e w2⟨⟨v,rfl,d,rfl,hd⟩,u⟩;obtain⟨ad,cp,rfl,_⟩:=id hd;have b5:=Z (hd.mono (eb _) u.size);have m:=Z (btr F.o u F.o.size);have a7:=Z (ap a8.o u);clear hd u))
   |(go_at_call 101;((with_reducible refine dz (bO.o _ _ ?_) ?_);(focus exact(b5.o.kept (λk _ h3=>e6 _ _ _ h3)).mono (eb _) (by simp));rintro e V⟨rfl,g⟩;have o:Hid (Bw p V):=btr (m.o.alloc m.o.size _) g (m.o.alloc m.o.size _).size;have a1:=Z (ap (a7.o.alloc _) g);clear g))
   |(go_at_call 100;((with_reducible refine dz (bY.o _) ?_);rintro e w6⟨v6,rfl,Q,P⟩;obtain⟨wa,wc,rfl⟩:=aw Q;have a0:Hid (Bw p w6):=btr o.o P o.o.size;have a9:=Z (ap a1.o P);clear Q P))
   |(go_at_call 97;((with_reducible refine dz (ud _ L0 _ p _ a9.o ?_ ?_) ?_);(focus exact a0.o.size);(focus exact er a6.o (by decide));rintro e w7⟨v7,L7,rfl,a3,ao,al,ac⟩;obtain⟨bt,bv,rfl⟩:=aw a3;have b9:=Z a3;have b8:=Z ao;have b7:=Z al;have b4:Hid (Bw p w7):=btr a0.o ac a0.o.size;clear a3 ao al ac)))
  go_ret;refine⟨dq bt L7.length bv,L7,rfl,aD b9.o a2,λy=>?_,er b7.o (Nat.succ_le_succ a6.o),btr ay.o b4.o a2⟩;rw[b8.o y,aa.o,e9,fs,bb.o,O.o y];simp
 have au:q<f:=by rw[HN.o];exact hlt
 have i1:(q:Int)<n:=by omega
 have cm:Hid (booksR (f.take (q+1))=booksR (f.take q)++bookS f[q].tag f[q].subs):=by unfold Hid booksR;rw[e4 au,fr];simp[il]
 have aS:=bw q;have d8:f[q].subs.length<=1000000:=er (cr _) (bB.2 _ (ej au));have cq:Hid (∀s∈f[q].subs,s.text.length<=1000000):=λs hs=>iX (bB.2 _ (ej au)) hs;obtain⟨fb,dc,d3,d,hv,_,d5,c0,c1,c2,c3,a4⟩:=bs.field q au;obtain⟨ad,cp,rfl,_⟩:=id a4;injection hv with e1 e2 e3
 subst e1;subst e3;clear e2;obtain⟨G,bc⟩:=Qe (wr.alloc (dd #[S f[q].tag,S f[q].ind,S f[q].data,.slice ad f[q].subs.length cp] 123));have da:G.heap.size=wr+1:=by rw[<- bc];simp
 have u:Bw wr G:=by rw[<- bc];exact(em _ wr).alloc (eb _) _
 have HF:Hid (∀W,Bw G W->W.cell? wr=some (S f[q].tag)/\W.cell? ⟨wr,3,Y⟩=some (.slice ad f[q].subs.length cp)/\aE 0 w W (.slice ad f[q].subs.length cp) f[q].subs/\Bw p W):=λW hW=>by have h0:W.heap[wr.heap.size]?=some (dd #[S f[q].tag,S f[q].ind,S f[q].data,.slice ad f[q].subs.length cp] 123 (0,0)):=(hW.block _ (by omega)).trans (by rw[<- bc];exact fp wr _);have h1:=btr u hW u.size;exact⟨by rw[ab h0];rfl,by rw[ab h0];rfl,aE.kept a4 (aW h1 (by have:=A.o.size;have:=c4.o;omega)),btr A.o h1 A.o.size⟩
 have a7:=Z (ap HO.o u);obtain⟨f0,f3,_⟩:=HF G (em _ _);generalize booksR (f.take q)=M0 at*;generalize f[q].tag=T at*;generalize f[q].subs=ss at*;generalize f[q].ind=I at*;generalize f[q].data=D at*;clear bs au a4 u;go_wp2_with fail;go_loopw [3,6] (λv i wx=>∃(j:Nat)(L:List Bs)(B:Option Addr)(E:Nat),j<=ss/\v=dq B L.length E/\i=J U j/\Hid (wx.ownsRow p 9 1 (dq B L.length E) L.length (L.map λs=>S s))/\Hid (Bw G wx)/\Hid (∀y,y∈L↔y∈(M0++bookS T (ss.take j)).map isbnK)/\Hid (L.length<=(M0++bookS T (ss.take j)).length)) (λ_ i _=>ss-(intOf i).toNat)
 case atStart=>
  have e:M0++bookS T (ss.take 0)=M0:=by unfold bookS;simp
  exact⟨0,L0,B,E,es _,rfl,rfl,a7.o,em _ _,by rw[e];exact O.o,by rw[e];exact HL.o⟩
 obtain⟨j,L,B,E,hj,rfl,rfl,HO,m,O,HL⟩:=hrel;obtain⟨f0,f3,a4,bd⟩:=HF wr m.o;have cg:=Z bd;by_cases hgo:j<ss/\T=dh;rotate_left
 .have HE:Hid (booksR (f.take (q+1))=M0++bookS T (ss.take j)):=by
   unfold Hid;rw[cm.o];congr 1
   by_cases t:T=dh
   .rw[eg (by have:¬j<ss:=λh=>hgo ⟨h,t⟩;omega)]
   unfold bookS;rw[if_neg t,if_neg t]
  have hx:((j:Int)<ss/\(T==[48,50,48])=false)∨¬(j:Int)<ss:=by
   by_cases h:j<ss
   .exact .inl ⟨by omega,by simpa[dh]usingλt=>hgo ⟨h,t⟩⟩
   exact .inr (by omega)
  generalize M0++bookS T (ss.take j)=M at*;clear hgo a4 bd;rcases hx with⟨h1,h2⟩|h1
  all_goals
   go_wp2_with fail
   go_roundw
   case rel=>exact⟨q+1,L,B,E,by omega,rfl,by go_num,HO.o,cg.o,by unfold Hid;rw[HE.o];exact O.o,by unfold Hid;rw[HE.o];exact HL.o⟩
   case measure=>simp[intOf];omega
 obtain⟨b3,t⟩:=hgo;have i2:(j:Int)<ss:=by omega
 have i3:(T==[48,50,48])=true:=by rw[t];rfl
 have z:Hid (M0++bookS T (ss.take (j+1))=(M0++bookS T (ss.take j))++(if ss[j].code=97 then(isbnR ss[j].text).toList else[])):=by unfold Hid;rw[gD T ss j b3,List.append_assoc];simp[t]
 have c7:=fU T (ss.take j);rw[ex]at c7;have cj:Hid (L.length<=1000001000000):=by have:=HL.o;unfold Hid;rw[eQ]at this;omega
 have HI:=Z (λW=>vP ss[j].text W (cq _ (ej b3)));have az:Hid (∃K so,ad=some ⟨K,so,Y⟩/\∀W,Bw G W->W.cell? ⟨K,so+j*2,Y⟩=some (J dk ss[j].code.toNat)/\W.cell? ⟨K,so+j*2+1,Y⟩=some (S ss[j].text)):=by
  obtain⟨K,so,c,hv,_,av,s0,s1⟩:=a4.sub j b3;injection hv with e1 e2 e3
  have av:K<G:=by have:=c4.o;have:=A.o.size;omega
  exact⟨K,so,e1,λW hW=>by rw[(aq hW).1 K _ av,(aq hW).1 K _ av,<- (aq m.o).1 K _ av,<- (aq m.o).1 K _ av];exact⟨s0,s1⟩⟩
 obtain⟨K,so,rfl,bk⟩:=az.o;have az:=Z bk;obtain⟨s0,s1⟩:=bk wr m.o;generalize M0++bookS T (ss.take j)=M at*;obtain⟨r,hr⟩:=Qe (isbnR ss[j].text);have ch:Hid (∀N,r=some N->N.length<=1000):=λN h=>Ap (hr.trans h);rw[hr]at HI z;generalize ss[j].text=X at*;generalize ss[j].code=C at*;clear t hr bk a4 c7 b3 bd;have HG:Hid (∀W,Bw wr W->Bw G W):=λW h=>btr m.o h m.size;rcases r with _|N
 .have z:Hid (M0++bookS T (ss.take (j+1))=M):=z.o.trans (by simp);have HI:Hid (∀W,Calls prog 96 #[S X] W λe w'=>e=dx (.tuple #[S [],dy false])/\Bw W w'):=HI.o;go_wp2_with (go_at_call 96;(refine dz (HI.o _) ?_;rintro e V⟨rfl,g⟩;have o:=Z (HG.o _ g);have a1:=Z (ap HO.o g);clear g))
  go_roundw;exact⟨j+1,L,B,E,by omega,rfl,by go_num,a1.o,o.o,by unfold Hid;rw[z.o];exact O.o,by unfold Hid;rw[z.o];exact HL.o⟩;simp[intOf];omega
 have HI:Hid (∀W,Calls prog 96 #[S X] W λe w'=>e=dx (.tuple #[S N,dy true])/\Bw W w'):=HI.o;have d7:=ch N rfl;by_cases hC:C=97
 .have z:Hid (M0++bookS T (ss.take (j+1))=M++[N]):=z.o.trans (by simp[hC]);have i4:((C.toNat:Int)==97)=true:=by rw[hC];rfl
  have g1:¬9223372036854775807<N.length+1+1+1+1+1:=by omega
  clear hC
  go_wp2_with (first
   |(go_at_call 96;((with_reducible refine dz (HI.o _) ?_);rintro e V⟨rfl,g⟩;have o:=Z (HG.o _ g);have a1:=Z (ap HO.o g);obtain⟨_,cQ,_,ca⟩:=HF.o V o.o;have cs:=Z ca;obtain⟨cP,_⟩:=az.o V o.o;clear g ca))
   |(go_at_call 97;((with_reducible refine dz (ud _ L _ p _ a1.o ?_ ?_) ?_);(focus exact cs.o.size);(focus exact er cj.o (by decide));rintro e w6⟨v6,L6,rfl,Q,c9,c6,P⟩;obtain⟨d0,d2,rfl⟩:=aw Q;have a9:=Z Q;have cl:=Z c9;have ci:=Z c6;have a0:Hid (Bw G w6):=btr o.o P o.o.size;clear Q c9 c6 P)))
  go_roundw
  case rel=>
   refine⟨j+1,L6,d0,d2,by omega,rfl,by go_num,a9.o,a0.o,λy=>?_,?_⟩
   .rw[cl.o y,z.o,e7,e9,O.o y];simp[isbnK]
   have:=ci.o;have:=HL.o;unfold Hid;rw[z.o,eQ];simp;omega
  simp[intOf];omega
 have z:Hid (M0++bookS T (ss.take (j+1))=M):=z.o.trans (by simp[hC]);have i4:((C.toNat:Int)==97)=false:=beq_eq_false_iff_ne.2 λh=>hC (UInt8.toNat_inj.1 (Int.ofNat.inj h));clear hC;go_wp2_with (go_at_call 96;(refine dz (HI.o _) ?_;rintro e V⟨rfl,g⟩;have o:=Z (HG.o _ g);have a1:=Z (ap HO.o g);obtain⟨_,cQ,_⟩:=HF.o V o.o;obtain⟨cP,_⟩:=az.o V o.o;clear g))
 go_roundw
 case rel=>exact⟨j+1,L,B,E,by omega,rfl,by go_num,a1.o,o.o,by unfold Hid;rw[z.o];exact O.o,by unfold Hid;rw[z.o];exact HL.o⟩
 simp[intOf];omega
theorem xG(a b:Int)(n:Int)(k l:Int)(x:fn)(w:fl):(Instr.field 64 (.agg #[a,b,n,J dk k,J dk l,x]) 1).run prog w=.ok n w:=by kernel_rfl
theorem xF(a b:Int)(n:Int)(k l:Int)(o:Option Addr)(m c:Nat)(w:fl):(Instr.field 64 (.agg #[a,b,n,J dk k,J dk l,dq o m c]) 2).run prog w=.ok (.agg #[J dk k,J dk l,dq o m c]) w:=by kernel_rfl
theorem uM(a:Int)(j:Bool)(w:fl):(Instr.field 139 (.agg #[a,dy j]) 1).run prog w=.ok (dy j) w:=by kernel_rfl
def inC(d:aB)(p:RK×(Int×aG)):Bool:=match findK d.ds p.1 with
 |some n=>decide (n<=p.2.1)
 |none=>true
theorem q8(d:aB):thereC d=d.vs.filter (inC d):=rfl
theorem vB(l:List RK):∀u∈l.flatMap rkCells,u.oneCell'=true:=by
 intro u a;obtain⟨p,b,a⟩:=List.mem_flatMap.1 a;simp only[rkCells,List.mem_cons,List.not_mem_nil,or_false]at a;rcases a with rfl|rfl<;>rfl
theorem pM(l:List RK):(l.flatMap rkCells).length=l*2:=by
 induction l with
 |nil=>rfl
 |cons p ps ih=>rw[List.flatMap_cons,eQ,ih];simp[rkCells];omega
theorem kZ(w:fl)(o:Obj)(x y:fn)(t:TypeId):∀j v,[x,y][j]?=X v->((w.alloc o).alloc (dd #[x,y] t)).drew.drew.cell? ((⟨w.heap.size+1,0,Y⟩:Addr).add j)=X v:=by
 have h:=cell_two_new (w.alloc o) x y t;rw[World.size_alloc]at h;exact h
theorem oq{w:fl}{B e k n:Nat}{v:fn}{a:List fn}(h:w.ownsRow B e k v n a):w.drew.drew.ownsRow B e k v n a:=h
theorem vA{w:fl}{B e k n:Nat}{v:fn}{b:List fn}{o a:Obj}(h:w.ownsRow B e k v n b):((w.alloc o).alloc a).ownsRow B e k v n b:=(h.alloc o).alloc a
theorem yF(F:Nat->Prop)(w:fl)(c:Nat)(z m2 m3:Option Nat)(kn:fn)(d:aB)(h:ed F w c z m2 m3 kn d):
 Calls prog 77 #[.pointer c] w λe w'=>∃v,e=dx v/\w'.ownsRow w 36 2 v ((thereC d).map (·.1)).length (((thereC d).map (·.1)).flatMap rkCells)/\Bw w w':=by
 obtain⟨ps,O,q2,q3⟩:=h.vs;have b1:de ltRK (ps.map (·.1))=d.vs.map (·.1):=by rw[<- O,List.map_map];refine cB aY (.refl _) ?_;have y:=h.ok.ok.vs;rw[<- O]at y;unfold aH at y;rw[List.pairwise_map]at y ⊢;exact y
 have a6:ps.length=d.vs:=by rw[<- O];simp
 have bA:=h.ok.vlen;have HK:=Z (BD z w);have a3:Bw w (w.alloc (dd #[.map z] 113)):=(em _ w).alloc (eb _) _;have a8:=xl 8 (by omega) w z (ps.map λp=>(p.1,ju p.1 p.2)) (w.alloc (dd #[.map z] 113)) (by rw[World.cell?_alloc_new];rfl) (q2.block (λb L=>a3.block b (h.lt b (h.f1 b L)))) (λb L=>by have:=h.lt b (h.f1 b L);simp;omega);have b3:(ps.map λp=>(p.1,ju p.1 p.2)).map (·.1)=ps.map (·.1):=by rw[List.map_map];rfl
 rw[b3]at a8;have P:=Z (j9 10 (by omega) 108 #[.pointer w] (enters_of func108 (by kernel_rfl) rfl) (ps.map (·.1)) (by simp;omega) _ _ (λca x hx=>by have:=hx.1;simp at this;omega) _ a8);rw[b1]at P;have a5:(ps.map (·.1)).length=(d.vs.map (·.1)).length:=by simp[a6]
 rw[a5]at P;have c0:w.cell? c=X (.map z):=(ab h.blk 0).trans rfl;have I:=Z h;have al:=Z a3;have ax:=Z O;have bl:=Z q2;have bs:=Z q3;have bk:=Z a6;have bc:(w.alloc (dd #[.map z] 113)).heap.size=w+1:=by simp
 have bO:=Z bc;clear a8 b3 b1 a5 h a3 O q2 q3 a6 bc;obtain⟨i0,hi,b8,b9,bb⟩:=info_parts i36;have HI:=Z hi;have ao:=Z b8;have au:=Z b9;have av:=Z bb;clear hi b8 b9 bb;obtain⟨s,R⟩:=Qe (d.vs.map (·.1));rw[R]at P;have a5:s.length<=5000:=by rw[<- R];simpa using bA
 have a1:=Z R;clear R;go_enter func77,ntmps77
 go_wp2_with (first
  |(go_at_call 61;((with_reducible refine dz HK.o ?_);rintro e w1⟨rfl,rfl⟩))
  |(go_at_call 47;((with_reducible refine dz P.o ?_);rintro e C⟨v,rfl,a7,aT⟩;obtain⟨va,vc,rfl⟩:=aQ a7;have bt:=Z a7;have bd:=Z aT;clear a7 aT)))
 have az:Bw w C:=al.trans (bd.mono al.size);have A:=Z az;clear az;go_loopw [3,5,6,7,15] (λbB _p _a _b i wr=>∃(k:Nat)(G:Option Addr)(H:Nat)(g:List RK),k<=s/\i=J U k/\Hid (g=((d.vs.take k).filter (inC d)).map (·.1))/\bB=dq G g H/\Hid (wr.ownsRow (C.heap.size) 36 2 (dq G g H) g (g.flatMap rkCells))/\Hid (Bw C wr)) (λ_ _ _ _ i _=>s-(intOf i).toNat)
 exact⟨0,Y,0,[],es _,rfl,rfl,rfl,e5 _ _ _ _,em _ _⟩;obtain⟨k,G,H,g,hk,rfl,K,rfl,E,t⟩:=hrel;by_cases hlt:k<s;rotate_left
 .have HE:Hid (g=(thereC d).map (·.1)):=by
   unfold Hid
   rw [K.o,q8,eg (by have:s.length=d.vs:=by rw [<- a1.o];simp
                     omega)]
  go_wp2_with fail;go_ret;rw[<- HE.o];exact⟨_,rfl,aD E.o A.size,A.trans (t.mono A.size)⟩
 have a9:k<d.vs:=by rw[<- a1.o]at hlt;simpa using hlt
 have c7:k<ps:=by rw[bk.o];exact a9
 have ay:=Z ((aM bt.o).kept (w':=wr) (λq _ hq=>t.block q hq));have b5:eL 0 C wr (dq va s vc) s:=ay.mono (es _) (eb _);obtain⟨b,c9,bY,he,_,c3,e0,e1⟩:=b5.one k hlt;cases he;have Q:Hid (d.vs.take (k+1)=d.vs.take k++[d.vs[k]]):=e4 a9;have b2:s[k]=d.vs[k].1:=by simp[<- a1.o]
 have B:=I.below (A.trans (t.mono A.size));obtain⟨p,hp⟩:=Qe (d.vs[k]);have V:p∈d.vs:=by rw[<- hp];exact ej a9
 rw[hp]at Q b2;obtain⟨⟨a,f⟩,n,r⟩:=p;have b4:rkOk (a,f):=I.ok.vkey _ V;rw[b2]at e0 e1;dsimp only at e0 e1;have M:∃x,findK ps (a,f)=X ((n,r),x):=by
  rw[<- ax.o]at V;obtain⟨q,hq,he⟩:=List.mem_map.1 V;obtain⟨qk,qv,qx⟩:=q;injection he with h1 h2
  dsimp only at h1 h2;subst h1;subst h2;have y:=I.ok.ok.vs;rw[<- ax.o]at y;unfold aH at y;rw[List.pairwise_map]at y;exact⟨qx,(fh aY (l:=ps) y).2 hq⟩
 obtain⟨x,M⟩:=M;obtain⟨_,_,b0,_,_⟩:=bs _ (vT M);obtain⟨xa,xc,b7⟩:=b0.shape;dsimp only at b7;subst b7;clear b0;have aS:∀W,Bw wr W->(Instr.lookup 113 (.map z) (.agg #[a,f]) false).run prog W=.ok (.agg #[a,f,n,J dk r.kind,J dk r.level,dq xa r.fields xc]) W:=λW hW=>by have bw:Bw w W:=(A.o.trans (t.o.mono A.o.size)).trans (hW.mono (by have:=A.o.size;have:=t.o.size;omega));have:=cI.look (w:=W) (bl.block (λb L=>bw.block b (I.lt b (I.f1 b L)))) underlying113 lL (a,f) b4;rw[gr,M]at this;exact this
 have aC:∀W,Bw wr W->(Instr.lookup 114 (.map m2) (.agg #[a,f]) true).run prog W=.ok (.tuple #[((findK d.ds (a,f)).getD 0),dy (findK d.ds (a,f)).isSome]) W:=λW hW=>by have:=cI.look_ok (w:=W) ((B.below hW).ds) underlying114 yk (a,f) b4;rw[fN d.ds (λn=>Value.int U n)]at this;refine Eq.trans this ?_;cases findK d.ds (a,f)<;>rfl
 have b6:∀o,Bw wr (wr.alloc o).drew:=λo=>((em _ wr).alloc (eb _) o).drew;have T:=λo=>aC _ (b6 o);have c5:=λo=>aS _ (b6 o).drew;have c4:=λW=>xG a f n r.kind r.level (dq xa r.fields xc) W;have c2:∀o,(wr.alloc o).cell? ⟨c,1,Y⟩=X (.map m2):=λo=>by rw[bf _ _ _ _ (B.lt c B.fc)];exact(ab B.blk 1).trans rfl
 have c1:∀o,(wr.alloc o).cell? c=X (.map z):=λo=>by rw[bf _ _ _ _ (B.lt c B.fc)];exact(ab B.blk 0).trans rfl
 have c6:g.length<=5000:=by rw[K.o,List.length_map];have:=List.length_filter_le (inC d) (d.vs.take k);rw[ex]at this;omega
 have aa:=t.size;clear aS aC M B b5 ay V hp;have u:Hid (inC d ((a,f),n,r)=match findK d.ds (a,f)with|some m=>decide (m<=n)|none=>true):=rfl;cases hf:findK d.ds (a,f)with
 |none=>
  rw[hf]at T u;dsimp only at u;simp only[Option.getD_none,Option.isSome_none]at T;clear hf;go_wp2_with fail;go_region;go_wp2_with fail;go_region;go_wp2_with (at_builtin;refine wpList_append_own_at _ rfl _ _ 52 rfl C 36 i0 (.agg #[J U 0,J U 0]) 2 16 underlying52 HI.o ao.o au.o av.o rfl (by decide) (dq G g H) _ _ rfl (oq (vA E.o)) ⟨wr.heap.size+1,0,Y⟩ 1 1 [J U a,J U f] rfl rfl (kZ _ _ _ _ _) (by simp[Value.oneCell']) (by unfold maxLen;omega) (by omega) (by simp;omega) ?_;intro v' w5 D N _ bv;obtain⟨ac,ad,rfl⟩:=aw D;have a2:=Z D;have a0:=Z N;clear D N)
  go_roundw
  case rel=>
   refine⟨k+1,ac,ad,g++[(a,f)],by omega,by go_num,?_,by simp,?_,?_⟩
   .unfold Hid;rw[Q.o,e8,e7,K.o];simp[u.o]
   .have:=a2.o;exact Z (by simpa[rkCells]using this)
   have a4:Bw C ((wr.alloc (dd #[a,f] 36)).alloc (dd #[a,f] 36)).drew.drew:=(((t.o.alloc aa _).alloc (by simp;omega) _).drew).drew;exact a4.grown a0.o (by simp;omega) (λj hj=>(E.o.lt j hj).1)
  simp[intOf];omega
 |some m=>
  rw[hf]at T u;dsimp only at u;simp only[Option.getD_some,Option.isSome_some]at T;clear hf;by_cases hmn:m<=n
  .rw[decide_eq_true hmn]at u;go_wp2_with fail;go_region;go_wp2_with fail;go_region;go_wp2_with (at_builtin;refine wpList_append_own_at _ rfl _ _ 52 rfl C 36 i0 (.agg #[J U 0,J U 0]) 2 16 underlying52 HI.o ao.o au.o av.o rfl (by decide) (dq G g H) _ _ rfl (oq (vA E.o)) ⟨wr.heap.size+1,0,Y⟩ 1 1 [J U a,J U f] rfl rfl (kZ _ _ _ _ _) (by simp[Value.oneCell']) (by unfold maxLen;omega) (by omega) (by simp;omega) ?_;intro v' w5 D N _ bv;obtain⟨ac,ad,rfl⟩:=aw D;have a2:=Z D;have a0:=Z N;clear D N)
   go_roundw
   case rel=>
    refine⟨k+1,ac,ad,g++[(a,f)],by omega,by go_num,?_,by simp,?_,?_⟩
    .unfold Hid;rw[Q.o,e8,e7,K.o];simp[u.o]
    .have:=a2.o;exact Z (by simpa[rkCells]using this)
    have a4:Bw C ((wr.alloc (dd #[a,f] 36)).alloc (dd #[a,f] 36)).drew.drew:=(((t.o.alloc aa _).alloc (by simp;omega) _).drew).drew;exact a4.grown a0.o (by simp;omega) (λj hj=>(E.o.lt j hj).1)
   simp[intOf];omega
  rw[decide_eq_false hmn]at u;go_wp2_with fail;go_region;go_wp2_with fail;go_region;go_wp2_with fail;go_roundw
  case rel=> refine⟨k+1,G,H,g,by omega,by go_num,?_,rfl,(E.o.alloc _),(t.o.alloc aa _).drew.drew⟩;unfold Hid;rw[Q.o,e8,e7,K.o];simp[u.o]
  simp[intOf];omega
end
end Go.Proofs.YtjcimanddakkaaaGreatDoor
