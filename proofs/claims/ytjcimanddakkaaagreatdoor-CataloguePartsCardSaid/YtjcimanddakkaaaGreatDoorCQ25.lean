/- Lemmas. -/
import Derived.Test.YtjcimanddakkaaaGreatDoorCQ32
set_option maxRecDepth 100000
set_option maxHeartbeats 8000000
namespace Go.Proofs.YtjcimanddakkaaaGreatDoor
open Go.Ending renaming returned→fn
open Go.Value renaming int→J,slice→g9,bool→ho,pointer→kc
open Go.IntKind renaming i64→U,u8→gp
open _root_.Option renaming none→Y,some→X
open Go.Lib renaming hid→Z
open Go.Obj renaming cells→kb
open Tryz
open _root_.Nat renaming zero_le→kd,le_refl→kl,lt_of_lt_of_le→kq,le_trans→kt,add_assoc→kv,eq_zero_or_pos→lm
open Go.Calls renaming mono→kk
open Go.RowKit.Below renaming refl→kn,heap_setCell→lk
open Go.World renaming cell?_of_block→ko,size_setCell→lf,alloc_heap_new→lB,ownsRow_nil→lQ
open _root_.List renaming getElem_mem→ks,length_map→kx,range→ky,flatMap_append→kz,length_append→la,take_succ_eq_append_getElem→lb,getElem?_eq_getElem→lp,map_append→ls,length_filter_le→lx,mem_cons_self→lP,take_length→l1,append_nil→l2,getElem?_eq_none→l3,mem_of_mem_take→l4,mem_cons_of_mem→l5,filter_append→l6
open Go renaming World→ld,Value→lE
open Go.RowKit renaming Below→lT
section
open Go.RowKit Go.Maps Go.Shelf
attribute [local go_sem] Oper.semAt_some
theorem tS(a b:aA)(x y:lE)(w:ld)(ha:ag 0 w.heap.size w x a.fields)(hb:ag 0 w.heap.size w y b.fields)(M:bo a.fields)(N:bo b.fields):
 Calls prog 102 #[ep a x,ep b y] w λe w'=>e=fn (J U (pointsR a b))/\Bw w w':=by
 obtain⟨W1,xa,xc,c6,rfl,a1,bO,a6⟩:=kW a.kind a.level x a.fields w ha;obtain⟨i,ya,yc,c7,rfl,a3,bY,a7⟩:=kW b.kind b.level y b.fields W1 ((hb.kept (aY a1 (kl _))).mono (kl _) a1.size);have a2:Hid (Bw w i):=btr a1 a3 a1.size;have a8:∀W,Bw i W->Bw W1 W:=λW h=>btr a3 h a3.size;have T:Hid (∀W,Bw i W->ag 0 W.heap.size W (g9 xa a.fields.length xc) a.fields):=λW h=>(a6 W (a8 W h)).2.mono (kl _) (by have:=h.size;omega);have V:Hid (∀W,Bw i W->ag 0 W.heap.size W (g9 ya b.fields.length yc) b.fields):=λW h=>(a7 W h).2.mono (kl _) (by have:=h.size;omega)
 have A:Hid (∀W,Bw i W->(W.cell? ⟨w.heap.size,0,Y⟩=X (J gp a.kind.toNat)/\W.cell? ⟨w.heap.size,1,Y⟩=X (J gp a.level.toNat)/\W.cell? ⟨w.heap.size,2,Y⟩=X (g9 xa a.fields.length xc))/\
  (W.cell? ⟨W1.heap.size,0,Y⟩=X (J gp b.kind.toNat)/\W.cell? ⟨W1.heap.size,1,Y⟩=X (J gp b.level.toNat)/\W.cell? ⟨W1.heap.size,2,Y⟩=X (g9 ya b.fields.length yc))):=λW h=>⟨(a6 W (a8 W h)).1,(a7 W h).1⟩
 have b7:Hid (∀W,Bw i W->_):=λW h=>oq a.kind a.level _ a.fields W (T W h) M;have b8:Hid (∀W,Bw i W->_):=λW h=>oq b.kind b.level _ b.fields W (V W h) N;have b9:Hid (∀W,Bw i W->_):=λW h=>lO a.kind a.level _ a.fields W (T W h) M;have bc:Hid (∀W,Bw i W->_):=λW h=>lO b.kind b.level _ b.fields W (V W h) N;have bd:Hid (∀W,Bw i W->_):=λW h=>mX a.kind a.level _ a.fields W (T W h) M;have bk:Hid (∀W,Bw i W->_):=λW h=>mX b.kind b.level _ b.fields W (V W h) N;have bl:Hid (∀W,Bw i W->_):=λW h=>qJ a.kind a.level _ a.fields W (T W h) M;have bs:Hid (∀W,Bw i W->_):=λW h=>qJ b.kind b.level _ b.fields W (V W h) N;have H:Hid (pointsR a b=bookPts (booksR a.fields) (booksR b.fields)+titlePts (aK a.fields) (aK b.fields)+authorPts (bh a.fields) (bh b.fields)+yearPts (br a.fields) (br b.fields)+(if a.kind=b.kind then 0 else -40)):=rfl;have av:(booksR a.fields).length<=1000000000000:=by have:=dl a.fields a.fields.length M;rwa[l1]at this
 have ax:(booksR b.fields).length<=1000000000000:=by have:=dl b.fields b.fields.length N;rwa[l1]at this
 have ay:(bh a.fields).length<=1000000000000:=kt (eH M) (by decide);have aC:(bh b.fields).length<=1000000000000:=kt (eH N) (by decide);have c9:=ln a.fields;have cc:=ln b.fields;unfold ep;clear ha hb M N a6 a7 a8 a1 a3 T V;generalize booksR a.fields=B1 at*;generalize booksR b.fields=B2 at*;generalize aK a.fields=T1 at*;generalize aK b.fields=T2 at*;generalize bh a.fields=A1 at*;generalize bh b.fields=A2 at*;generalize br a.fields=Y1 at*;generalize br b.fields=Y2 at*;generalize a.fields.length=n1 at*;generalize b.fields.length=n2 at*;generalize a.kind=K1 at*;generalize b.kind=K2 at*;generalize a.level=V1 at*;generalize b.level=V2 at*;have HL:Hid (B1.length<=1000000000000/\B2.length<=1000000000000/\A1.length<=1000000000000/\A2.length<=1000000000000):=⟨av,ax,ay,aC⟩;obtain⟨⟨B,C,D⟩,E,F,G⟩:=A i (kn _ _);clear av ax ay aC bO bY;go_enter func102,ntmps102
 go_upto_region 4 with(first
  |(go_at_call 149;((with_reducible refine kk (b7.o _ (kn _ _)) ?_);rintro e O⟨v3,rfl,K,m⟩;obtain⟨c0,c4,rfl⟩:=aG K;have r:=Z (aD K (kd _));have c:=Z m;obtain⟨⟨B,C,D⟩,E,F,G⟩:=A.o O m;clear K m))
  |(go_at_call 149;((with_reducible refine kk (b8.o _ c.o) ?_);rintro e w4⟨v4,rfl,L,l⟩;obtain⟨c3,c5,rfl⟩:=aG L;have P:=Z (aD L (kd _));have k:=Z (btr c.o l c.o.size);have r:=Z (aE r.o l);clear L l)))
 go_cut [25] (λt j=>t=ho (decide (0<B1.length)&&decide (0<B2.length))/\j=w4)
 case first=>
  generalize B1.length=q1 at*;generalize B2.length=q2 at*;rcases lm q1 with rfl|v
  .go_wp2_with fail;go_meet;exact⟨rfl,rfl⟩
  have o:(0:Int)<(q1:Int):=by omega
  rcases lm q2 with rfl|z
  .go_wp2_with fail;go_meet;exact⟨by simp,rfl⟩
  have I:(0:Int)<(q2:Int):=by omega
  go_wp2_with fail;go_meet;exact⟨by simp[v,z],rfl⟩
 obtain⟨rfl,rfl⟩:=hcut;obtain⟨d,f⟩:=Qe ((decide (0<B1.length)&&decide (0<B2.length)));rw[f];have a5:Hid (bookPts B1 B2=if d=true then(if B1.any B2.contains=true then 50 else -30)else 0):=by unfold Hid bookPts;rw[<- f];cases B1<;>cases B2<;>simp
 clear f;go_upto_if 25 with fail;go_cut [5] (λp j=>p=J U (bookPts B1 B2)/\Hid (Bw i j))
 case first=>
  have b4:=Z (oH _ _ B1 B2 wc (aN r.o) (aN P.o) (by have:=HL.o;omega) (by have:=HL.o;omega));cases d
  .go_wp2_with fail;go_meet;exact⟨by rw[a5.o];rfl,k.o⟩
  generalize B1.any B2.contains=cb at*;cases cb
  all_goals
   go_wp2_with (go_at_call 54;(refine kk b4.o ?_;rintro e w5⟨rfl,au⟩;have g:=Z (btr k.o au k.o.size);clear au))
   go_meet
   exact⟨by rw[a5.o];rfl,g.o⟩
 obtain⟨rfl,g⟩:=hcut;obtain⟨⟨B,C,D⟩,E,F,G⟩:=A wc g.o;clear a5 r P c k
 go_upto_region 10 with(first
  |(go_at_call 98;((with_reducible refine kk (b9.o _ g.o) ?_);rintro e O⟨rfl,m⟩;have c:=Z (btr g.o m g.o.size);obtain⟨⟨B,C,D⟩,E,F,G⟩:=A.o O c.o;clear m))
  |(go_at_call 98;((with_reducible refine kk (bc.o _ c.o) ?_);rintro e w4⟨rfl,l⟩;have k:=Z (btr c.o l c.o.size);clear l)))
 obtain⟨v,a4⟩:=Qe (bookPts B1 B2);have bt: -30<=v/\v<=50:=by rw[<- a4];unfold bookPts;split;omega;split<;>omega
 rw[a4]at H;rw[a4];clear a4;go_cut [42] (λt j=>t=ho (decide (T1≠[])&&decide (T2≠[]))/\j=w4)
 case first=>
  by_cases h1:T1=[]
  .have o:(T1==[])=true:=by simpa using h1
   go_wp2_with fail;go_meet;exact⟨by simp[h1],rfl⟩
  have o:(T1==[])=false:=by simpa using h1
  by_cases h2:T2=[]
  .have I:(T2==[])=true:=by simpa using h2
   go_wp2_with fail;go_meet;exact⟨by simp[h2],rfl⟩
  have I:(T2==[])=false:=by simpa using h2
  go_wp2_with fail;go_meet;exact⟨by simp[h1,h2],rfl⟩
 obtain⟨rfl,rfl⟩:=hcut;obtain⟨d,f⟩:=Qe ((decide (T1≠[])&&decide (T2≠[])));rw[f];have Q:Hid (titlePts T1 T2=if d=true then(if T1=T2 then 30 else -20)else 0):=by unfold Hid titlePts;rw[<- f];cases T1<;>cases T2<;>simp
 clear f;go_upto_if 42 with fail;go_cut [5] (λp j=>p=J U (v+titlePts T1 T2)/\j=wc)
 case first=>
  cases d
  .go_wp2_with fail;go_meet;exact⟨by rw[Q.o];simp,rfl⟩
  by_cases hT:T1=T2
  .have o:(T1==T2)=true:=by simpa using hT
   rw[if_pos rfl,if_pos hT]at Q;clear hT;go_wp2_with fail;go_meet;exact⟨by rw[Q.o],rfl⟩
  have o:(T1==T2)=false:=by simpa using hT
  rw[if_pos rfl,if_neg hT]at Q;clear hT;go_wp2_with fail;go_meet;exact⟨by rw[Q.o];rfl,rfl⟩
 obtain⟨rfl,rfl⟩:=hcut;obtain⟨z,a9⟩:=Qe (v+titlePts T1 T2);have bv: -50<=z/\z<=80:=by
  have: -20<=titlePts T1 T2/\titlePts T1 T2<=30:=by unfold titlePts;split;omega;split<;>omega
  omega
 rw[a9]at H;rw[a9];obtain⟨⟨B,C,D⟩,E,F,G⟩:=A wc k.o;clear a9 bt Q c g
 go_upto_region 16 with(first
  |(go_at_call 150;((with_reducible refine kk (bd.o _ k.o) ?_);rintro e O⟨v3,rfl,K,m⟩;obtain⟨c0,c4,rfl⟩:=aG K;have r:=Z (aD K (kd _));have c:=Z (btr k.o m k.o.size);obtain⟨⟨B,C,D⟩,E,F,G⟩:=A.o O c.o;clear K m))
  |(go_at_call 150;((with_reducible refine kk (bk.o _ c.o) ?_);rintro e w5⟨v4,rfl,L,l⟩;obtain⟨c3,c5,rfl⟩:=aG L;have P:=Z (aD L (kd _));have g:=Z (btr c.o l c.o.size);have r:=Z (aE r.o l);clear L l)))
 go_cut [61] (λt j=>t=ho (decide (0<A1.length)&&decide (0<A2.length))/\j=w5)
 case first=>
  generalize A1.length=q1 at*;generalize A2.length=q2 at*;rcases lm q1 with rfl|v
  .go_wp2_with fail;go_meet;exact⟨rfl,rfl⟩
  have o:(0:Int)<(q1:Int):=by omega
  rcases lm q2 with rfl|z
  .go_wp2_with fail;go_meet;exact⟨by simp,rfl⟩
  have I:(0:Int)<(q2:Int):=by omega
  go_wp2_with fail;go_meet;exact⟨by simp[v,z],rfl⟩
 obtain⟨rfl,rfl⟩:=hcut;obtain⟨d,f⟩:=Qe ((decide (0<A1.length)&&decide (0<A2.length)));rw[f];have q:Hid (authorPts A1 A2=if d=true then(if A1=A2 then 15 else if A1.headD []=A2.headD []then 8 else -15)else 0):=by unfold Hid authorPts;rw[<- f];cases A1<;>cases A2<;>simp
 have al:Hid (d=true->0<A1.length/\0<A2.length):=λh=>by rw[<- f,Bool.and_eq_true,decide_eq_true_eq,decide_eq_true_eq]at h;exact h
 clear f;go_upto_if 61 with fail;go_cut [5] (λp j=>p=J U (z+authorPts A1 A2)/\Hid (Bw i j))
 case first=>
  have a0:=Z (qZ _ _ A1 A2 wc (aN r.o) (aN P.o) (by have:=HL.o;omega));cases d
  .go_wp2_with fail;go_meet;exact⟨by rw[q.o];simp,g.o⟩
  obtain⟨aS,aT⟩:=al rfl;obtain⟨pb,po,pc,bA,_,b1,b0⟩:=cT.at (aN r.o) 0 aS;injection bA with e1 e2 e3
  subst e1;clear e2 e3;obtain⟨qb,qo,qc,bB,_,b3,b2⟩:=cT.at (aN P.o) 0 aT;injection bB with e1 e2 e3
  subst e1;clear e2 e3;have b5:Hid (A1.headD []=A1[0]):=by cases A1 with|nil=>exact absurd aS (by simp)|cons=>rfl
  have b6:Hid (A2.headD []=A2[0]):=by cases A2 with|nil=>exact absurd aT (by simp)|cons=>rfl
  rw[if_pos rfl,b5.o,b6.o]at q;have ao:Hid (∀W,Bw wc W->W.cell? ⟨pb,po,Y⟩=X (S A1[0])/\W.cell? ⟨qb,qo,Y⟩=X (S A2[0])):=λW hW=>by rw[(an hW).1 pb _ b1,(an hW).1 qb _ b3];exact⟨b0,b2⟩
  generalize A1[0]=c1 at*;generalize A2[0]=c2 at*;clear b1 b3 b0 b2;by_cases hA:A1=A2
  .rw[decide_eq_true hA]at a0;rw[if_pos hA]at q;clear hA;go_wp2_with (go_at_call 151;(refine kk a0.o ?_;rintro e w6⟨rfl,u⟩;have n:=Z (btr g.o u g.o.size);clear u))
   go_meet;exact⟨by rw[q.o],n.o⟩
  rw[decide_eq_false hA]at a0;rw[if_neg hA]at q;clear hA;by_cases hc:c1=c2
  .have o:(c1==c2)=true:=by simpa using hc
   rw[if_pos hc]at q;clear hc;go_upto_region 20 with(go_at_call 151;(refine kk a0.o ?_;rintro e w6⟨rfl,u⟩;have n:=Z (btr g.o u g.o.size);obtain⟨z1,z2⟩:=ao.o w6 u;clear u))
   go_region;go_wp2_with fail;go_meet;exact⟨by rw[q.o],n.o.drew⟩
  have o:(c1==c2)=false:=by simpa using hc
  rw[if_neg hc]at q;clear hc;go_upto_region 20 with(go_at_call 151;(refine kk a0.o ?_;rintro e w6⟨rfl,u⟩;have n:=Z (btr g.o u g.o.size);obtain⟨z1,z2⟩:=ao.o w6 u;clear u))
  go_region;go_wp2_with fail;go_meet;exact⟨by rw[q.o];rfl,n.o.drew⟩
 obtain⟨rfl,n⟩:=hcut;obtain⟨R,ac⟩:=Qe (z+authorPts A1 A2);have bw: -65<=R/\R<=95:=by
  have: -15<=authorPts A1 A2/\authorPts A1 A2<=15:=by unfold authorPts;split;omega;split;omega;split<;>omega
  omega
 rw[ac]at H;rw[ac];obtain⟨⟨B,C,D⟩,E,F,G⟩:=A wc n.o;clear ac bv q al c g r P
 go_upto_region 24 with(first
  |(go_at_call 152;((with_reducible refine kk (bl.o _ n.o) ?_);rintro e O⟨rfl,m⟩;have c:=Z (btr n.o m n.o.size);obtain⟨⟨B,C,D⟩,E,F,G⟩:=A.o O c.o;clear m))
  |(go_at_call 152;((with_reducible refine kk (bs.o _ c.o) ?_);rintro e w4⟨rfl,l⟩;have k:=Z (btr c.o l c.o.size);clear l)))
 go_cut [89] (λt j=>t=ho (decide (0<=Y1)&&decide (0<=Y2))/\j=w4)
 case first=>
  by_cases h1:0<=Y1
  .by_cases h2:0<=Y2
   all_goals
    go_wp2_with fail
    go_meet
    exact⟨by simp;omega,rfl⟩
  go_wp2_with fail;go_meet;exact⟨by simp;omega,rfl⟩
 obtain⟨rfl,rfl⟩:=hcut;obtain⟨d,f⟩:=Qe ((decide (0<=Y1)&&decide (0<=Y2)));rw[f];have s:Hid (yearPts Y1 Y2=if d=true then(if Y1=Y2 then 10 else if Y1-Y2=1∨Y2-Y1=1 then 0 else -10)else 0):=by
  unfold Hid yearPts;by_cases h:Y1<0∨Y2<0
  .rw[if_pos h,if_neg (by rw[<- f];simp;omega)]
  have hb:d=true:=by rw[<- f];simp;omega
  rw[if_neg h,hb];rfl
 clear f;go_upto_if 89 with fail;go_cut [5] (λp j=>p=J U (R+yearPts Y1 Y2)/\j=wc)
 case first=>
  cases d
  .go_wp2_with fail;go_meet;exact⟨by rw[s.o];simp,rfl⟩
  rw[if_pos rfl]at s;by_cases he:Y1=Y2
  .have o:(Y1==Y2)=true:=by simpa using he
   have I:¬(1:Int)<Y1-Y2:=by omega
   have g3:¬(1:Int)<Y2-Y1:=by omega
   rw[if_pos he]at s;clear he;go_wp2_with fail;go_meet;exact⟨by rw[s.o],rfl⟩
  have o:(Y1==Y2)=false:=by simpa using he
  rw[if_neg he]at s;by_cases hd:Y1-Y2=1∨Y2-Y1=1
  .have I:¬(1:Int)<Y1-Y2:=by omega
   have g3:¬(1:Int)<Y2-Y1:=by omega
   rw[if_pos hd]at s;clear he hd;go_wp2_with fail;go_meet;exact⟨by rw[s.o];simp,rfl⟩
  rw[if_neg hd]at s;have hg:(1:Int)<Y1-Y2∨(¬(1:Int)<Y1-Y2/\(1:Int)<Y2-Y1):=by omega
  clear he hd;rcases hg with I|⟨I,g3⟩
  all_goals
   go_wp2_with fail
   go_meet
   exact⟨by rw[s.o];rfl,rfl⟩
 obtain⟨rfl,rfl⟩:=hcut;obtain⟨p4,ad⟩:=Qe (R+yearPts Y1 Y2);have c8: -75<=p4/\p4<=105:=by
  have: -10<=yearPts Y1 Y2/\yearPts Y1 Y2<=10:=by unfold yearPts;split;omega;split;omega;split<;>omega
  omega
 rw[ad]at H;rw[ad];obtain⟨⟨B,C,D⟩,E,F,G⟩:=A wc k.o;clear ad bw s c n;by_cases hk:K1=K2
 .subst hk;have o:((K1.toNat:Int)==(K1.toNat:Int))=true:=by simp
  go_wp2_with fail;go_ret;exact⟨aI (by rw[H.o];simp),btr a2.o k.o a2.o.size⟩
 have o:((K1.toNat:Int)==(K2.toNat:Int))=false:=beq_eq_false_iff_ne.2 λh=>hk (UInt8.toNat_inj.1 (Int.ofNat.inj h));rw[if_neg hk]at H;clear hk;go_wp2_with fail;go_ret;exact⟨aI (by rw[H.o];rfl),btr a2.o k.o a2.o.size⟩
theorem Am(a b:aA)(x y:lE)(w:ld)(h:ag 0 w.heap.size w x a.fields)(i:ag 0 w.heap.size w y b.fields)(o:bo a.fields)(q:bo b.fields):
 Calls prog 55 #[ep a x,ep b y] w λe w'=>e=fn (ho (decide (40<=pointsR a b)))/\Bw w w':=by
 obtain⟨t,F,G,z,rfl,c,u,k⟩:=kW a.kind a.level x a.fields w h;obtain⟨d,L,M,A,rfl,f,v,l⟩:=kW b.kind b.level y b.fields t ((i.kept (aY c (kl _))).mono (kl _) c.size);have g:Hid (Bw w d):=btr c f c.size;obtain⟨⟨C,D,E⟩,m⟩:=k d f;obtain⟨⟨H,I,K⟩,n⟩:=l d (kn _ _);have s:=Z (tS a b _ _ d (m.mono (kl _) (by omega)) (n.mono (kl _) (by omega)) o q);unfold ep at*;clear h i o q k l c f m n u v;generalize pointsR a b=p at*;generalize a.fields.length=n1 at*;generalize b.fields.length=n2 at*;go_enter func55,ntmps55;go_wp2_with (go_at_call 102;(refine kk s.o ?_;rintro e B⟨rfl,j⟩;have r:=Z (btr g.o j g.o.size);clear j))
 go_ret;exact⟨rfl,r.o⟩
attribute [local go_sem] Oper.semAt_some
theorem i81:(prog.info? 81).map (λi=>(i.zero,i.size,i.bytes))=X (X (g9 Y 0 0),1,24):=by kernel_rfl
theorem yT(z:lE)(a:z.cells= #[z])(n:Nat):(madeCells z.cells (n*1)).toList=List.replicate n z:=by
 apply List.ext_getElem?;intro j;by_cases hj:j<n
 .rw[List.getElem?_replicate,if_pos hj];simp[madeCells,a,hj,Nat.mod_one]
 rw[l3 (by rw[Array.length_toList,size_madeCells];omega),l3 (by rw[List.length_replicate];omega)]
theorem wJ(w:ld)(n:Nat)(hn:n<=1000):∃wa,(Instr.makeSlice 108 (J U (n:Int)) (J U (n:Int))).run prog w=.ok (g9 (X ⟨w.heap.size,0,Y⟩) n n) wa/\
 wa.ownsRow w.heap.size 81 1 (g9 (X ⟨w.heap.size,0,Y⟩) n n) n (List.replicate n (g9 Y 0 0))/\lT w.heap.size w wa/\w.heap.size<wa.heap.size:=by
 obtain⟨i,e,h,g,d⟩:=info_parts i81;obtain⟨wa,b,a,c⟩:=run_makeSlice_full (P:=prog) w w.heap.size 108 81 i (g9 Y 0 0) 1 underlying108 e h g U U n (by omega) (by rw[d];omega) (by unfold maxLen;omega) (kl _);rw[yT _ rfl]at a;exact⟨wa,b,a,(kn _ w).grown c (kl _) (λj f=>by cases f),(a.lt _ rfl).2⟩
def pX(K:Nat)(W:ld)(v:lE)(r:aA):Prop:=∃(a:Option Addr)(c:Nat)(L:List Bs),v=g9 a L.length c/\W.ownsRow (K+1) 9 1 v L.length (L.map λs=>S s)/\(∀y,y∈L↔y∈rawR r.fields)/\L.length<=1000000000001
theorem pX.below{K:Nat}{W b:ld}{v:lE}{r:aA}(h:pX K W v r)(g:lT W.heap.size W b):pX K b v r:=by
 obtain⟨a,c,L,d,e,f⟩:=h;exact⟨a,c,L,d,aE e g,f⟩
theorem pX.set{K:Nat}{W:ld}{v:lE}{r:aA}(h:pX K W v r)(i:Nat)(u:lE):pX K (W.setCell ⟨K,i,Y⟩ u) v r:=by
 obtain⟨a,c,L,d,b,e⟩:=h;exact⟨a,c,L,d,ai b λg f=>lk _ _ _ _ (by have:=(b.lt g f).1;show g≠K;omega),e⟩
theorem zY{A B a b:List Bs}(c:∀y,y∈A↔y∈a)(d:∀y,y∈B↔y∈b):A.any B.contains=a.any b.contains:=by
 rw[Bool.eq_iff_iff,List.any_eq_true,List.any_eq_true];simp only[List.contains_iff_mem,c,d]
def goL(l:List aA)(i k:Nat):List (Nat×Nat):=((ky k).filter λj=>decide (i<j)&&ga (l.getD i ⟨0,0,[]⟩) (l.getD j ⟨0,0,[]⟩)).map λj=>(i,j)
theorem Bg(l:List aA)(i:Nat):goL l i l.length=bR l l.length i:=rfl
theorem wW(l:List aA)(i:Nat):goL l i (i+1)=[]:=by
 unfold goL;rw[List.map_eq_nil_iff,List.filter_eq_nil_iff];intro j a;rw[List.mem_range]at a;simp;omega
theorem zj(l:List aA)(i k:Nat)(h:i<k):goL l i (k+1)=goL l i k++if ga (l.getD i rec0) (l.getD k rec0)=true then[(i,k)]else[]:=by
 unfold goL rec0;rw[List.range_succ,l6,ls];congr 1
 by_cases hm:ga (l.getD i ⟨0,0,[]⟩) (l.getD k ⟨0,0,[]⟩)=true
 .rw[if_pos hm,List.filter_cons_of_pos (by rw[Bool.and_eq_true,decide_eq_true_eq];exact⟨h,hm⟩)];rfl
 rw[if_neg hm,List.map_eq_nil_iff,List.filter_eq_nil_iff];intro j a;rw[List.mem_singleton]at a;subst a;exactλb=>hm (Bool.and_eq_true_iff.1 b).2
theorem vA(l:List aA)(i k:Nat):(goL l i k).length<=k:=by
 unfold goL;rw[kx];exact kt (lx _ _) (by simp)
theorem Ay(l:List aA)(n i:Nat):((ky i).flatMap (bR l n)).length<=i*n:=by
 induction i with
 |zero=>simp
 |succ i ih=>
  rw[List.range_succ,kz,la,Nat.succ_mul];have:([i].flatMap (bR l n)).length<=n:=by simp only[List.flatMap_cons,List.flatMap_nil,l2];exact vA l i n
  omega
theorem yJ(w:ld)(v:lE)(g:List (aA×lE))(h:kX w v g)(hn:g.length<=1000)(c4:∀p∈g,bo p.1.fields):
 Calls prog 26 #[v] w λe w'=>∃v':lE,e=fn v'/\w'.ownsRow w.heap.size 67 2 v' (pairsR (g.map (·.1))).length ((pairsR (g.map (·.1))).flatMap cN)/\lT w.heap.size w w':=by
 obtain⟨wa,a0,a8,a3,m⟩:=wJ w g.length hn;have a7:(g.map (·.1)).length=g.length:=kx _;obtain⟨l,hl⟩:=Qe (g.map (·.1));have cz:Hid (∀i(V:i<g.length),g[i].1=l.getD i rec0):=λi V=>by rw[<- hl,jB V]
 have a4:Hid (∀i,i<g.length->bo (l.getD i rec0).fields):=λi V=>by rw[<- hl,jB V];exact c4 _ (ks V)
 rw[hl]at a7 ⊢;have bk:=Z h;obtain⟨av,cv,rfl,_⟩:=h.1;obtain⟨n,b1⟩:=Qe g.length;obtain⟨K,R⟩:=Qe w.heap.size;have cp:=Z b1;rw[b1]at hn a7 a0 a8 a4 ⊢;replace a3:lT w.heap.size w wa:=a3;rw[R]at a0 a8 a3 m ⊢;have cl:=Z a7;have HK:=Z R;have al:Hid (∀W,lT K w W->∀q,q<n->∃b o x,av=X ⟨b,o,Y⟩/\b<K/\W.cell? ⟨b,o+q*3,Y⟩=X (J gp (l.getD q rec0).kind.toNat)/\W.cell? ⟨b,o+q*3+1,Y⟩=X (J gp (l.getD q rec0).level.toNat)/\W.cell? ⟨b,o+q*3+2,Y⟩=X x/\ag 0 W.heap.size W x (l.getD q rec0).fields/\∀B,lT W.heap.size W B->ag 0 B.heap.size B x (l.getD q rec0).fields):=λW c q hq=>by
  have b3:q<g.length:=by rw[cp.o];exact hq
  obtain⟨b,o,dc,hv,f,F,H,e2⟩:=bk.get q b3;injection hv with g1 g2 g3
  have f:b<K:=R▸f;have s:=bk.2 _ (ks b3);rw[cz.o q b3]at F H s;have hu:∀B,lT K w B->ag 0 B.heap.size B g[q].2 (l.getD q rec0).fields:=λB h=>(s.kept (aY h (Nat.le_of_eq R))).mono (kl _) h.size;have b7:∀{i:Nat}(u:lE),w.cell? ⟨b,i,Y⟩=X u->W.cell? ⟨b,i,Y⟩=X u:=λu h=>(ko (a:=⟨b,_,Y⟩) (c.block b f)).trans h;exact⟨b,o,g[q].2,g1,f,b7 _ F,b7 _ H,b7 _ e2,hu W c,λB h=>hu B (btr c h (R▸c.size))⟩
 have cP:=Z a8;have c8:=Z a3;have cm:=Z m;clear h hl a7 b1 c4 a8 a3 m R;go_enter func26,ntmps26;go_wp2_with fail;go_loopw [5] (λi wr=>∃q:Nat,q<=n/\i=J U q/\Hid (lT K w wr)/\Hid (K<wr.heap.size)/\Hid (∃vs:List lE,vs.length=n/\wr.ownsRow K 81 1 (g9 (X ⟨K,0,Y⟩) n n) n vs/\∀j,j<q->∃u,vs[j]?=X u/\pX K wr u (l.getD j rec0))) (λi _=>n-(intOf i).toNat)
 exact⟨0,kd _,rfl,c8.o,cm.o,_,by simp,cP.o,λj hj=>absurd hj (by omega)⟩;obtain⟨q,hq,rfl,d,N,HV⟩:=hrel;obtain⟨vs,b6,M,a6⟩:=HV.o;by_cases m:q<n
 .obtain⟨b,o,x,rfl,f,F,H,e2,s,_⟩:=al wr d.o q m;have hc:=M.cellAt q (by omega);have bY:q<vs.length:=by omega
  rw[lp bY]at hc;have b8:=Z (CC (l.getD q rec0).kind (l.getD q rec0).level x (l.getD q rec0).fields wr s (a4 q m));have A:=Z M;have cg:=Z a6;have bl:=Z b6;have bd:=Z bY;obtain⟨r,C⟩:=Qe (l.getD q rec0);have HR:=Z C;rw[C]at F H b8 s;obtain⟨xa,xc,hx⟩:=s.shape;subst hx;clear C M a6 b6 s f HV;have i1:(q:Int)<n:=by omega
  go_wp2_with (go_at_call 53;(refine kk b8.o ?_;rintro e w5⟨v5,L,rfl,b2,bB,bA,au⟩;obtain⟨a5,c5,rfl⟩:=aG b2;have cu:=Z b2;have cn:=Z bB;have ch:=Z bA;have a9:=Z au;have ad:=Z (aE A.o au);have dk:=ad.o.frozenAt q;have dd:=(ad.o.cellAt q (by have:=bl.o;omega)).trans (lp bd.o);clear b2 bB bA au))
  go_roundw
  case rel=>
   have d4:pX K w5 (g9 a5 L.length c5) (l.getD q rec0):=⟨a5,c5,L,rfl,aD cu.o N.o,by rw[HR.o];exact cn.o,ch.o⟩;refine⟨q+1,m,by go_num,(btr d.o a9.o (Nat.le_of_lt N.o)).setCell (p:=⟨K,q,Y⟩) (kl _) _,?_,vs.set q (g9 a5 L.length c5),by rw[List.length_set];exact bl.o,(ad.o.stored q _).1,λj hj=>?_⟩
   .have:=N.o;have:=a9.o.size;unfold Hid;rw[lf];omega
   by_cases hjq:j=q
   .subst hjq;exact⟨_,List.getElem?_set_self bd.o,d4.set _ _⟩
   obtain⟨u,h1,h2⟩:=cg.o j (by omega);exact⟨u,by rw[List.getElem?_set_ne (λh=>hjq h.symm)];exact h1,(h2.below a9.o).set _ _⟩
  simp[intOf];omega
 have d8:q=n:=by omega
 subst d8;generalize hW3:wr=W3 at*;have bb:Hid (∀W,lT W3.heap.size W3 W->∀j,j<q->∃u,W.cell? ⟨K,j,Y⟩=X u/\pX K W u (l.getD j rec0)):=λW c j hj=>by obtain⟨u,h1,h2⟩:=a6 j hj;exact⟨u,by rw[(an c).1 K _ N.o,M.cellAt j (by omega)];exact h1,h2.below c⟩
 have b9:=Z d.o;have ac:=Z (Nat.le_of_lt N.o);have cd:=Z N.o;have cy:=Z (λi=>Ay l q i);have cc:=Z (λi k=>vA l i k);have bc:Hid (l.length=q):=cl.o;clear a6 M b6 HV d N hW3 m hq;go_wp2_with fail;go_loopw [3,6] (λv i wr=>∃(i':Nat)(t:Option Addr)(z:Nat),i'<=q/\v=.slice t ((ky i').flatMap (bR l q)).length z/\i=J U i'/\Hid (wr.ownsRow W3.heap.size 67 2 (.slice t ((ky i').flatMap (bR l q)).length z) ((ky i').flatMap (bR l q)).length (((ky i').flatMap (bR l q)).flatMap cN))/\Hid (lT W3.heap.size W3 wr)) (λ_ i _=>q-(intOf i).toNat)
 case atStart=>exact⟨0,Y,0,kd _,rfl,rfl,lQ _ _ _ _,kn _ _⟩
 obtain⟨i,t,z,V,rfl,rfl,A,d⟩:=hrel;by_cases m:i<q;rotate_left
 .have e:(ky i).flatMap (bR l q)=pairsR l:=by unfold pairsR;rw[bc.o,show i=q by omega]
  rw[e]at A;rw[e];go_wp2_with fail;go_ret;exact⟨_,rfl,aD A.o ac.o,btr b9.o d.o ac.o⟩
 have i1:(i:Int)<q:=by omega
 have dy:=cy i;have dx:i*q<=1000*1000:=Nat.mul_le_mul (by omega) hn;have cq:Hid ((ky (i+1)).flatMap (bR l q)=(ky i).flatMap (bR l q)++goL l i q):=by unfold Hid;rw[List.range_succ,kz,<- bc.o];simp[Bg]
 have cb:=Z (wW l i);generalize(ky i).flatMap (bR l q)=P at*;go_wp2_with fail;go_loopw [3,7] (λv k wr=>∃(O:Nat)(t:Option Addr)(z:Nat),i<O/\O<=q/\v=.slice t (P++goL l i O).length z/\k=J U O/\Hid (wr.ownsRow W3.heap.size 67 2 (.slice t (P++goL l i O).length z) (P++goL l i O).length ((P++goL l i O).flatMap cN))/\Hid (lT W3.heap.size W3 wr)) (λ_ k _=>q-(intOf k).toNat)
 case atStart=>
  have e:P++goL l i (i+1)=P:=by rw[cb.o,l2]
  exact⟨i+1,t,z,by omega,m,by rw[e],by go_num,by rw[e];exact A.o,d.o⟩
 obtain⟨k,t,z,d3,hk,rfl,rfl,A,d⟩:=hrel;by_cases hkq:k<q;rotate_left
 .have d5:k=q:=by omega
  subst d5;have e:(ky (i+1)).flatMap (bR l k)=P++goL l i k:=cq.o;go_wp2_with fail;go_roundw;exact⟨i+1,t,z,m,by rw[e],by go_num,by unfold Hid;rw[e];exact A.o,d.o⟩;simp[intOf];omega
 have i2:(k:Int)<q:=by omega
 have d2:=cc i k;have Q:Hid (P++goL l i (k+1)=(P++goL l i k)++if ga (l.getD i rec0) (l.getD k rec0)=true then[(i,k)]else[]):=by unfold Hid;rw[zj l i k d3,List.append_assoc]
 have bt:(P++goL l i k).length<=1001000:=by rw[la];omega
 generalize P++goL l i k=G at*;have cx:=Z bt;have ax:lT K w wr:=btr b9.o d.o ac.o;obtain⟨b,o,x,rfl,d1,F,H,e2,s,aC⟩:=al wr ax i m;obtain⟨b',dz,y,hv,_,f0,f1,f2,hg,aS⟩:=al wr ax k hkq;injection hv with hv
 injection hv with g1 g2
 subst g1 g2;obtain⟨u1,bv,a1,c1,L1,rfl,c0,aT,d6⟩:=bb wr d.o i m;obtain⟨u2,bw,a2,c2,L2,rfl,c3,b0,d7⟩:=bb wr d.o k hkq;have b4:=a4 i m;have b5:=a4 k hkq;obtain⟨D,C⟩:=Qe (l.getD i rec0);rw[C]at F H s aC aT b4 Q;clear C;obtain⟨E,C⟩:=Qe (l.getD k rec0);rw[C]at f0 f1 hg aS b0 b5 Q;clear C;obtain⟨xa,xc,rfl⟩:=s.shape;obtain⟨ya,yc,rfl⟩:=hg.shape;obtain⟨mk,a0⟩:=Qe (L1.any L2.contains);obtain⟨ds,ay⟩:=Qe (decide (40<=pointsR D E));have bO:ga D E=(mk&&ds):=by unfold ga;rw[<- a0,<- ay,zY aT b0]
 rw[bO]at Q;have bs:K<wr.heap.size:=kq cd.o d.size
 have HF:Hid (∀W,lT wr.heap.size wr W->W.cell? ⟨K,i,Y⟩=X (g9 a1 L1.length c1)/\W.cell? ⟨K,k,Y⟩=X (g9 a2 L2.length c2)/\W.cell? ⟨b,o+i*3,Y⟩=X (J gp D.kind.toNat)/\W.cell? ⟨b,o+i*3+1,Y⟩=X (J gp D.level.toNat)/\W.cell? ⟨b,o+i*3+2,Y⟩=X (g9 xa D.fields.length xc)/\
  W.cell? ⟨b,o+k*3,Y⟩=X (J gp E.kind.toNat)/\W.cell? ⟨b,o+k*3+1,Y⟩=X (J gp E.level.toNat)/\W.cell? ⟨b,o+k*3+2,Y⟩=X (g9 ya E.fields.length yc)):=λW c=>by
  have f:b<wr.heap.size:=by omega
  rw[(an c).1 K _ bs,(an c).1 K _ bs,(an c).1 b _ f,(an c).1 b _ f,(an c).1 b _ f,(an c).1 b _ f,(an c).1 b _ f,(an c).1 b _ f]
  exact⟨bv,bw,F,H,e2,f0,f1,f2⟩
 have c9:Hid (∀W,lT wr.heap.size wr W->Calls prog 54 #[g9 a1 L1.length c1,g9 a2 L2.length c2] W λe w'=>e=fn (ho mk)/\lT wr.heap.size wr w'):=λW c=>(oH _ _ L1 L2 W (aN (aD (aE c0 c) (kd _))) (aN (aD (aE c3 c) (kd _))) (by omega) (by omega)).mono (by rintro e w'⟨rfl,h⟩;exact⟨by rw[a0],btr c h c.size⟩);have cQ:Hid (∀W,lT wr.heap.size wr W->Calls prog 55 #[.agg #[J gp D.kind.toNat,J gp D.level.toNat,g9 xa D.fields.length xc],.agg #[J gp E.kind.toNat,J gp E.level.toNat,g9 ya E.fields.length yc]] W λe w'=>e=fn (ho ds)/\lT wr.heap.size wr w'):=λW c=>(Am D E _ _ W (aC W c) (aS W c) b4 b5).mono (by rintro e w'⟨rfl,h⟩;exact⟨by rw[ay],btr c h c.size⟩);clear F H e2 f0 f1 f2 s hg aC aS bv bw c0 c3 aT b0 d6 d7 b4 b5 a0 ay bO d1 bt d2 ax;have ao:lT wr.heap.size wr wr.drew:=(kn _ _).drew;go_upto_region 13 with fail;refine Wb wr 999 ?_;refine Qd [0,1,2,3,4,5,6,7] ao HF.o ?_;refine call1 8 ao c9.o λW1 I=>?_;cases mk with
 |false=>
  refine Qc [9] I ?_;refine Qg [10,11,12,13,14,15,16,17,18] I ?_;refine Qc [19] I ?_;refine dN ?_;go_wp2_with fail;go_roundw
  case rel=>
   have e:P++goL l i (k+1)=G:=by rw[Q.o];simp
   exact⟨k+1,t,z,by omega,by omega,by rw[e],by go_num,by unfold Hid;rw[e];exact aE A.o I,btr d.o I d.o.size⟩
  simp[intOf];omega
 |true=>
  refine Qd [9,10,11,12,13,14,15,16,17] I HF.o ?_;refine call1 18 I cQ.o λW2 T=>?_;refine Qc [19] T ?_;refine dN ?_;cases ds with
  |false=>
   go_wp2_with fail;go_roundw
   case rel=>
    have e:P++goL l i (k+1)=G:=by rw[Q.o];simp
    exact⟨k+1,t,z,by omega,by omega,by rw[e],by go_num,by unfold Hid;rw[e];exact aE A.o T,btr d.o T d.o.size⟩
   simp[intOf];omega
  |true=>
   have cs:=Z (aE A.o T);have c6:=Z (btr d.o T d.size);clear ao I T;go_wp2_with (at_builtin;refine sU [J U i,J U k] cs.o c6.o (kl _) underlying65 i67 ?_ (hn:=by have:=cx.o;omega);intro d9 da w6 M f;have d0:=Z M;have c7:=Z f;clear M f)
   go_roundw
   case rel=>
    have e:P++goL l i (k+1)=G++[(i,k)]:=by rw[Q.o];simp
    exact⟨k+1,d9,da,by omega,by omega,by rw[e];simp,by go_num,by unfold Hid;rw[e,kz,la];exact d0.o,c7.o⟩
   simp[intOf];omega
attribute [local go_sem] Oper.semAt_some
theorem Bh{set:List Nat}{i:Nat}(h:i<set.length):set.getD i 0=set[i]:=by rw[List.getD_eq_getElem?_getD,lp h];rfl
attribute [local go_sem] Oper.semAt_some
theorem cL.all{n:Nat}{set:List Nat}(h:cL n set):∀z∈set,z<n:=λz b=>by
 obtain⟨i,a,rfl⟩:=List.getElem_of_mem b;have:=h.lt (i:=i) (by rw[<- h.len];exact a);rwa[Bh a]at this
def ff(c p:Nat):Obj:=kb #[kc (X ⟨c,0,Y⟩),kc (X ⟨p,0,Y⟩)] 27 (0,0)
structure TS(w:ld)(T c p:Nat)(d:ar)(FC FM:Nat->Prop)(W:ld):Prop where
 pr:bM FC FM W c p d
 lo:∀q,FC q∨FM q->w.heap.size<=q/\q≠T
 tb:W.heap[T]?=some (ff c p)
 bw:Bw w W
theorem TS.below{w W f:ld}{T c p:Nat}{d:ar}{b e:Nat->Prop}(h:TS w T c p d b e W)(a:Bw W f):TS w T c p d b e f:=
 ⟨h.pr.below a,h.lo,(a.block T (ae h.tb)).trans h.tb,btr h.bw a h.bw.size⟩
theorem TS.cat{w W g:ld}{T c p:Nat}{d:ar}{j k f:Nat->Prop}(h:TS w T c p d j k W)(m:bq f g c d)(e:ah j W f g):TS w T c p d f k g:=by
 refine⟨⟨m,bM.one h.pr e,λq a b=>?_⟩,λq i=>?_,(e.block T (ae h.tb) λn=>(h.lo T (.inl n)).2 rfl).trans h.tb,h.bw.trans (e.below (λq i=>(h.lo q (.inl i)).1) h.bw.size).1⟩
 .rcases e.new q a with l|l
  .exact h.pr.dis q l b
  have:=h.pr.mod.lt q b;omega
 rcases i with a|a
 .rcases e.new q a with b|b
  .exact h.lo q (.inl b)
  have:=ae h.tb;have:=h.bw.size;omega
 exact h.lo q (.inr a)
theorem TS.act{w W e:ld}{T c p:Nat}{d l:ar}{i j a b:Nat->Prop}(h:TS w T c p d i j W)(n:bM a b e c p l)(f:ah (λk=>i k∨j k) W (λk=>a k∨b k) e):TS w T c p l a b e:=by
 refine⟨n,λq g=>?_,(f.block T (ae h.tb) λo=>(h.lo T o).2 rfl).trans h.tb,h.bw.trans (f.below (λq g=>(h.lo q g).1) h.bw.size).1⟩;rcases f.new q g with m|m
 .exact h.lo q m
 have:=ae h.tb;have:=h.bw.size;omega
theorem TS.own{w W f:ld}{T c p:Nat}{d:ar}{a h e:Nat->Prop}(_:TS w T c p d a h W)(g:ah a W e f){q:Nat}{o:Obj}(b:W.heap[q]?=X o)(hn:¬a q):f.heap[q]?=X o/\¬e q:=
 ⟨(g.block q (ae b) hn).trans b,g.not (ae b) hn⟩
theorem TS.fresh{w W:ld}{T c p:Nat}{d:ar}{a b:Nat->Prop}(h:TS w T c p d a b W){q:Nat}(f:W.heap.size<=q):¬a q:=λe=>by
 have:=h.pr.cat.lt q e;omega
theorem C2(d:ar)(hn:d.vs.length<=1000):(sameC d).length<=1000/\(titlesC d).length<=1000/\∀k,(membersC d k).length<=1000:=by
 have a:=ik (d:=d);exact⟨by rw[fv];omega,kt (lM d) (by omega),λk=>kt (kK d k) (by omega)⟩
attribute [local go_sem] Oper.semAt_some
theorem ii.cells{w:ld}{a:Option Addr}{n c:Nat}{l:List dg}(h:ii w (g9 a n c) l)(k:Nat)(f:k<l.length):∃b d,a=X ⟨b,d,Y⟩/\∀W,Bw w W->∀i u,(actL l[k])[i]?=X u->W.cell? ⟨b,d+(k*10+i),Y⟩=X u:=by
 obtain⟨x,c2,v,r⟩:=h.at_;have t:l.flatMap actL≠[]:=by intro e;have j:=List.flatMap_eq_nil_iff.1 e _ (ks f);cases j
 obtain⟨b,d,o,_,p,q⟩:=r t;injection v with hv1
 rw[o]at hv1;refine⟨b,d,hv1,λW m i u g=>?_⟩;have s:i<10:=(List.getElem?_eq_some_iff.1 g).1;rw[(an m).1 b _ p];exact q _ _ ((cW actL 10 (λ_=>rfl) l k f i s).trans g)
theorem TS.set{w W:ld}{T c p:Nat}{d:ar}{b f:Nat->Prop}(h:TS w T c p d b f W){R:Nat}(m:¬b R)(n:¬f R)(l:R≠T)(o:w.heap.size<=R)(i:Nat)(u:lE):TS w T c p d b f (W.setCell ⟨R,i,Y⟩ u):=by
 have a:∀k,k≠R->(W.setCell ⟨R,i,Y⟩ u).heap[k]?=W.heap[k]?:=λk a=>lk _ _ _ _ a;have j:W.heap.size<=(W.setCell ⟨R,i,Y⟩ u).heap.size:=by rw[lf];exact kl _
 exact⟨⟨h.pr.cat.step (λk g=>a k λe=>m (e▸g)) j,h.pr.mod.step (λk g=>a k λe=>n (e▸g)) j,h.pr.dis⟩,h.lo,(a T l.symm).trans h.tb,h.bw.setCell (p:=⟨R,i,Y⟩) o u⟩
end
section
open Go.RowKit
theorem oe:∀(l:List dg)(d:ar),d.ds=[]->d.ps=[]->(∀x∈l,x.k.emod 8<5)->(runC l d).ds=[]/\(runC l d).ps=[]
 |[],_,h1,h2,_=>⟨h1,h2⟩
 |x::l,d,h1,h2,h=>by
  have f:=h x lP
  have c:actC d x=putC d (recI x.a) (x.v.emod 6) (saidR x):=by
   unfold actC
   rw[if_neg (by omega),if_neg (by omega),if_neg (by omega)]
  have b:(actC d x).1.ds=[]/\(actC d x).1.ps=[]:=by
   rw[c]
   unfold putC
   dsimp only
   split
   .exact⟨h1,h2⟩
   .split<;>split<;>exact⟨h1,h2⟩
  exact oe l _ b.1 b.2 λy e=>h y (l5 _ e)
theorem jU{d:ar}(h:d.ds=[]):thereC d=d.vs:=by
 unfold thereC;rw[List.filter_eq_self];intro p _;rw[h];rfl
theorem tU{d:ar}(a:d.ds=[])(e:d.ps=[])(q:Nat×Nat)(b:q∈pairsR (d.vs.map λp=>p.2.2)):∃(g:q.1<(sameC d).length)(h2:q.2<(sameC d).length),(sameC d)[q.1].2=(sameC d)[q.2].2:=by
 have c:=jz q b;rw[kx]at c;have f:(setsC d).getD q.1 0=(setsC d).getD q.2 0:=by unfold setsC;exact kN (λp h=>by rw[e]at h;cases h) _ _ (cL.range _) (yu d) q (List.mem_append_right _ (by rw[jU a];exact b))
 have i:(sameC d).length=d.vs.length:=by rw[fv,jU a]
 refine⟨by omega,by omega,?_⟩;unfold sameC;simp only[List.getElem_map,List.getElem_range,f]
theorem jx{d:ar}(h:d.Ok){t:RK}(e:t∈titlesC d):∃j,j<(thereC d).length/\(setsC d).getD j 0=j/\keyC (thereC d) j=t/\membersC d t=be (thereC d) (setsC d) j:=by
 obtain⟨j,a,c,b⟩:=(fS h t).1 e;exact⟨j,a,c,b,by rw[<- b];exact kJ h a⟩
theorem kI{d:ar}(h:d.Ok){t:RK}(e:t∈titlesC d):(membersC d t).Pairwise λa b=>ltRK a b=true:=by
 obtain⟨j,_,_,_,c⟩:=jx h e;rw[c];exact gl (bJ h) _ _
theorem tT{d:ar}(h:d.Ok){t k:RK}(g:t∈titlesC d)(a:k∈membersC d t):titleC d k=X t:=by
 obtain⟨j,l,m,b,c⟩:=jx h g;rw[c]at a;obtain⟨i,e,f,rfl⟩:=aV.1 a;rw[lN h,eX (bJ h) e,Option.map_some,f,b]
theorem wD{d:ar}(h:d.Ok){t:RK}(q:t∈titlesC d):∃m,membersC d t=t::m:=by
 obtain⟨j,c,r,f,g⟩:=jx h q;have p:=kI h q;have b:t∈membersC d t:=by rw[g];exact aV.2 ⟨j,c,r,f⟩
 have o:∀k∈membersC d t,ltRK k t=false:=λk n=>by
  rw[g]at n;obtain⟨i,l,s,rfl⟩:=aV.1 n;have:=(fU d).le i l;rw[s]at this;cases hlt:ltRK (keyC (thereC d) i) t
  .rfl
  rw[<- f,mx (bJ h) l c]at hlt;omega
 cases hm:membersC d t with
 |nil=>rw[hm]at b;cases b
 |cons a m=>
  rw[hm]at b p o;rcases List.mem_cons.1 b with e|b
  .exact⟨m,by rw[e]⟩
  have:=(List.pairwise_cons.1 p).1 t b;rw[o a lP]at this;cases this
theorem oG{α:Type}[DecidableEq α](a:α):∀T:List α,(T.map λt=>if a=t then 1 else 0).sum=T.count a
 |[]=>rfl
 |b::T=>by
  rw[List.map_cons,List.sum_cons,oG a T,List.count_cons]
  by_cases h:a=b
  .subst h;simp;omega
  .have c:¬b=a:=λe=>h e.symm
   simp[h,c]
theorem uY{α:Type}(f g:α->Nat):∀T:List α,(T.map λt=>f t+g t).sum=(T.map f).sum+(T.map g).sum
 |[]=>rfl
 |b::T=>by simp only[List.map_cons,List.sum_cons,uY f g T];omega
theorem kT{α β:Type}[DecidableEq β](T:List β)(hn:T.Nodup)(f:α->β):∀a:List α,(∀p∈a,f p∈T)->(T.map λt=>(a.filter λp=>decide (f p=t)).length).sum=a.length
 |[],_=>by
  have:∀T:List β,(T.map λ_=>(0:Nat)).sum=0:=λT=>by induction T<;>simp_all
  simpa using this T
 |p::a,h=>by
  have ih:=kT T hn f a λq c=>h q (l5 _ c)
  have b:∀t,((p::a).filter λp=>decide (f p=t)).length=(if f p=t then 1 else 0)+(a.filter λp=>decide (f p=t)).length:=λt=>by
   by_cases ht:f p=t
   .rw[List.filter_cons_of_pos (by simpa using ht),if_pos ht,List.length_cons];omega
   .rw[List.filter_cons_of_neg (by simpa using ht),if_neg ht];omega
  simp only[b]
  rw[uY,ih,oG,hn.count,if_pos (h p lP),List.length_cons]
  omega
theorem yF{d:ar}(h:d.Ok):((titlesC d).map λt=>(membersC d t).length).sum=(sameC d).length:=by
 have c:(titlesC d).Nodup:=l9 (fi h);rw[<- kT (titlesC d) c (λp:RK×RK=>p.2) (sameC d) λp b=>?_]
 .unfold membersC;simp only[kx]
 unfold sameC at b;obtain⟨i,a,rfl⟩:=List.mem_map.1 b;rw[List.mem_range]at a;exact(fS h _).2 ⟨_,(fU d).lt a,(fU d).rep i a,rfl⟩
end
section
open Go.RowKit Go.Maps Go.Shelf
attribute [local go_sem] Oper.semAt_some
theorem fA{c b:Nat->Prop}{W d:ld}{B e k n:Nat}{v:lE}{i:List lE}(h:W.ownsRow B e k v n i)(hn:∀g,v.ownBlock=X g->¬c g)(f:ah c W b d):d.ownsRow B e k v n i/\∀g,v.ownBlock=X g->¬b g:=
 ⟨ai h λg a=>f.block g (h.lt g a).2 (hn g a),λg a=>f.not (h.lt g a).2 (hn g a)⟩
def gD(x:dg):Bool:=decide (x.k.emod 8<5)
theorem i47:(prog.info? 47).map (λi=>(i.zero,i.size,i.bytes))=X (X (.agg #[J U 0,J U 0,J U 0,J U 0,J U 0,J U 0,J U 0,J U 0,J U 0,J U 0]),10,80):=by kernel_rfl
structure US(w:ld)(T c p:Nat)(d:ar)(v8 v9:lE)(FC FM:Nat->Prop)(W:ld):Prop where
 ts:TS w T c p d FC FM W
 r8:W.ownsRow 0 69 4 v8 (sameC d).length ((sameC d).flatMap pkCells)
 n8:∀g,v8.ownBlock=some g->¬FC g
 r9:W.ownsRow 0 36 2 v9 (titlesC d).length ((titlesC d).flatMap rkCells)
 n9:∀g,v9.ownBlock=some g->¬FC g
theorem US.below{w W f:ld}{T c p:Nat}{d:ar}{g i:lE}{b e:Nat->Prop}(h:US w T c p d g i b e W)(a:Bw W f):US w T c p d g i b e f:=
 ⟨h.ts.below a,aE h.r8 a,h.n8,aE h.r9 a,h.n9⟩
theorem US.cat{w W e:ld}{T c p:Nat}{d:ar}{i j:lE}{f g b:Nat->Prop}(h:US w T c p d i j f g W)(k:bq b e c d)(a:ah f W b e):US w T c p d i j b g e:=
 ⟨h.ts.cat k a,(fA h.r8 h.n8 a).1,(fA h.r8 h.n8 a).2,(fA h.r9 h.n9 a).1,(fA h.r9 h.n9 a).2⟩
theorem yj{α:Type}(f:α->Nat)(l:List α)(j:Nat)(h:j<l.length):((l.take (j+1)).map f).sum=((l.take j).map f).sum+f l[j]/\((l.take (j+1)).map f).sum<=(l.map f).sum:=by
 refine⟨by rw[lb h,ls,List.sum_append];simp,?_⟩;conv=>rhs;rw[<- List.take_append_drop (j+1) l]
 rw[ls,List.sum_append];omega
theorem BR{W:ld}{B n:Nat}{a:Option Addr}{c:Nat}{l:List RK}(hn:l.length=n)(h:W.ownsRow B 36 2 (g9 a n c) n (l.flatMap rkCells))(q:Nat)(f:q<l.length):
 ∃g,a=X ⟨g,0,Y⟩/\g<W.heap.size/\∀r(d:r<l.length),W.cell? ⟨g,r*2,Y⟩=X (J U l[r].1)/\W.cell? ⟨g,r*2+1,Y⟩=X (J U l[r].2):=by
 rw[<- hn]at h;obtain⟨g,k,i,e,_⟩:=cV (enc:=rkCells) (λ_=>rfl) (aD h (kd _)) q f;injection i with e1 e2 e3
 refine⟨g,e1,e,λr d=>?_⟩;obtain⟨o,m,j,_,b⟩:=cV (enc:=rkCells) (λ_=>rfl) (aD h (kd _)) r d;injection j with e4 e5 e6
 rw[e1]at e4;injection e4 with e4
 injection e4 with e4
 subst e4;exact⟨b 0 _ rfl,b 1 _ rfl⟩
theorem wA(l:List dg)(k:Nat)(h:k<l.length):(l.take (k+1)).filter gD=(l.take k).filter gD++if gD l[k]=true then[l[k]]else[]:=by
 rw[lb h,l6];congr 1
 by_cases hp:gD l[k]=true
 .rw[if_pos hp,List.filter_cons_of_pos hp];rfl
 rw[if_neg hp,List.filter_cons_of_neg hp];rfl
theorem AD{d:ar}(h:bi d){t k:RK}(e:t∈titlesC d)(b:k∈membersC d t):rkOk k:=by
 obtain⟨j,_,_,_,c⟩:=jx h.ok e;rw[c]at b;obtain⟨i,a,_,rfl⟩:=aV.1 b;rw[bW a];exact h.vkey _ (List.mem_filter.1 (show _∈d.vs.filter (inC d)from ks a)).1
theorem vH{i f:Nat->Prop}{wr W:ld}{c Q:Nat}{d:ar}(h:bq f W c d)(l:ah i wr f W)(j:wr.heap.size<=Q)(hn:¬f Q){x y:lE}{t:TypeId}(m:W.heap[Q]?=X (kb #[x,y] t (0,0)))(a b:lE):
 (∀k,k≠Q->((W.setCell ⟨Q,0,Y⟩ a).setCell ⟨Q,1,Y⟩ b).heap[k]?=W.heap[k]?)/\((W.setCell ⟨Q,0,Y⟩ a).setCell ⟨Q,1,Y⟩ b).heap[Q]?=X (kb #[a,b] t (0,0))/\bq f ((W.setCell ⟨Q,0,Y⟩ a).setCell ⟨Q,1,Y⟩ b) c d/\ah i wr f ((W.setCell ⟨Q,0,Y⟩ a).setCell ⟨Q,1,Y⟩ b):=by
 have g:∀k,k≠Q->((W.setCell ⟨Q,0,Y⟩ a).setCell ⟨Q,1,Y⟩ b).heap[k]?=W.heap[k]?:=λk g=>(lk _ _ _ _ g).trans (lk _ _ _ _ g);exact⟨g,(aq (aq m 0 a) 1 b).trans rfl,h.step (λk n=>g k λe=>hn (e▸n)) (by rw[lf,lf];exact kl _),l.via (((kn _ W).setCell (p:=⟨Q,0,Y⟩) j a).setCell (p:=⟨Q,1,Y⟩) j b)⟩
theorem parts_5(v:lE)(l:List dg)(w:ld)(h:ii w v l):Calls prog 5 #[v] w λe w'=>e=fn (ho true)/\Bw w w':=by
 have hX:=Z (wl w);obtain⟨va,vc,rfl,_⟩:=id h.at_;have HA:=Z (λk H=>h.cells k H);have d8:=Z h.ok;obtain⟨N,hN⟩:=Qe l.length;have HN:=Z hN;have jb:N<=9223372036854775807:=by have:=h.len;unfold maxLen at this;omega
 rw[hN];clear h hN;go_enter func5,ntmps5;go_upto_block 0 with(go_at_call 10;(refine kk hX.o ?_;rintro e w1⟨rfl,av⟩;have hZ:=Z av;clear av))
 go_cut [4,5] (λv i wr=>∃(P:List dg)(k:Nat)(ra:Option Addr)(rc:Nat),v=g9 ra P.length rc/\i=J U k/\P.length<=40/\Hid (∀x∈P,s7 x/\x.k.emod 8<5)/\Hid (wr.ownsRow w.heap.size 47 10 (g9 ra P.length rc) P.length (P.flatMap actL))/\Hid (Bw w wr))
 case' first=>
  go_wp2_with fail;go_loopw [4,5] (λv i wr=>∃(k:Nat)(ra:Option Addr)(rc:Nat),k<=N/\k<=40/\v=.slice ra ((l.take k).filter gD).length rc/\i=J U k/\Hid (wr.ownsRow w.heap.size 47 10 (.slice ra ((l.take k).filter gD).length rc) ((l.take k).filter gD).length (((l.take k).filter gD).flatMap actL))/\Hid (Bw w wr)) (λ_ i _=>N-(intOf i).toNat)
  exact⟨0,Y,0,kd _,by omega,rfl,rfl,lQ _ _ _ _,hZ.o⟩;obtain⟨k,ra,rc,H,k3,rfl,rfl,HR,L⟩:=hrel;by_cases hgo:k<N/\k<40;rotate_left
  .have E:¬(k:Int)<N∨((k:Int)<N/\¬(k:Int)<40):=by omega
   have hm:∃(P:List dg)(k':Nat)(ra':Option Addr)(rc':Nat),Value.slice ra ((l.take k).filter gD).length rc=g9 ra' P.length rc'/\Value.int U (k:Int)=J U k'/\P.length<=40/\Hid (∀x∈P,s7 x/\x.k.emod 8<5)/\Hid (wr.ownsRow w.heap.size 47 10 (g9 ra' P.length rc') P.length (P.flatMap actL))/\Hid (Bw w wr):=by
    refine⟨_,k,ra,rc,rfl,rfl,?_,λx E=>?_,HR,L⟩
    .have:=lx gD (l.take k);rw[List.length_take]at this;omega
    rw[List.mem_filter]at E;exact⟨d8.o x (l4 E.1),by simpa[gD]using E.2⟩
   have HM:=Z hm;clear hm hgo HR HA d8 HN;generalize((l.take k).filter gD).length=pl at*;rcases E with i1|⟨i1,i2⟩
   all_goals
    go_wp2_with fail
    go_meet
    exact HM.o
  obtain⟨iS,k0⟩:=hgo;have f8:k<l.length:=by rw[HN.o];exact iS
  have i1:(k:Int)<N:=by omega
  have i2:(k:Int)<40:=by omega
  have a2:=Z (wA l k f8);have hF:=lx gD (l.take k);rw[List.length_take,HN.o]at hF;have ib:Hid (((l.take k).filter gD).length<=40):=by unfold Hid;omega
  obtain⟨b,a7,rfl,hs⟩:=HA k f8;generalize(l.take k).filter gD=P at*;generalize l[k]=x at*;obtain⟨xk,xa,xb,xv,⟨qa,qb,qc,qd,qe,qf⟩⟩:=x;have A:=hs wr L.o;have y0:wr.cell? ⟨b,a7+k*10,Y⟩=X (J U xk):=A 0 _ rfl;have y1:wr.cell? ⟨b,a7+k*10+1,Y⟩=X (J U xa):=by rw[kv];exact A 1 _ rfl
  have y2:wr.cell? ⟨b,a7+k*10+2,Y⟩=X (J U xb):=by rw[kv];exact A 2 _ rfl
  have y3:wr.cell? ⟨b,a7+k*10+3,Y⟩=X (J U xv):=by rw[kv];exact A 3 _ rfl
  have y4:wr.cell? ⟨b,a7+k*10+4,Y⟩=X (J U qa):=by rw[kv];exact A 4 _ rfl
  have y5:wr.cell? ⟨b,a7+k*10+5,Y⟩=X (J U qb):=by rw[kv];exact A 5 _ rfl
  have y6:wr.cell? ⟨b,a7+k*10+6,Y⟩=X (J U qc):=by rw[kv];exact A 6 _ rfl
  have y7:wr.cell? ⟨b,a7+k*10+7,Y⟩=X (J U qd):=by rw[kv];exact A 7 _ rfl
  have y8:wr.cell? ⟨b,a7+k*10+8,Y⟩=X (J U qe):=by rw[kv];exact A 8 _ rfl
  have y9:wr.cell? ⟨b,a7+k*10+9,Y⟩=X (J U qf):=by rw[kv];exact A 9 _ rfl
  have gz:=Z (iV xk 8 wr (by omega) (by omega));have hI:gD ⟨xk,xa,xb,xv,⟨qa,qb,qc,qd,qe,qf⟩⟩=decide (xk.emod 8<5):=rfl;rw[hI]at a2;generalize xk.emod 8=m at*;clear f8 hF hs A hI;by_cases hm:m<5
  .have a2:Hid ((l.take (k+1)).filter gD=P++[⟨xk,xa,xb,xv,⟨qa,qb,qc,qd,qe,qf⟩⟩]):=a2.o.trans (by rw[if_pos (by simpa using hm)])
   go_wp2_with (first
    |(go_at_call 24;((with_reducible refine kk gz.o ?_);rintro e w5⟨rfl,rfl⟩))
    |(at_builtin;refine sU [J U xk,J U xa,J U xb,J U xv,J U qa,J U qb,J U qc,J U qd,J U qe,J U qf] HR.o L.o (kl _) underlying22 i47 ?_ (hn:=by have:=ib.o;omega);intro gd gf w6 V hb;have iD:=Z V;have al:=Z hb;clear V hb))
   go_roundw;exact⟨k+1,gd,gf,by omega,by omega,by rw[a2.o,la];rfl,by go_num,by unfold Hid;rw[a2.o,kz,la];exact iD.o,al.o⟩;simp[intOf];omega
  have a2:Hid ((l.take (k+1)).filter gD=P):=a2.o.trans (by rw[if_neg (by simpa using hm),l2]);go_wp2_with (go_at_call 24;(refine kk gz.o ?_;rintro e w5⟨rfl,rfl⟩))
  go_roundw
  case rel=>exact⟨k+1,ra,rc,by omega,by omega,by rw[a2.o],by go_num,by unfold Hid;rw[a2.o];exact HR.o,L.o⟩
  simp[intOf];omega
 case' rest=>
  obtain⟨P,k,ra,rc,rfl,rfl,iP,dc,HR,L⟩:=hcut;clear HA HN d8;have e4:=AB (g9 ra P.length rc) P wc ⟨aN (aD HR.o (kd _)),λx E=>(dc.o x E).1,by unfold maxLen;omega⟩;obtain⟨d,hd⟩:=Qe (playC P);have fb:=yD P;have fr:=Az P;have c3:=oe (P.take 40) cat0 rfl rfl λx E=>(dc x (l4 E)).2;change(playC P).ds=[]/\(playC P).ps=[]at c3;rw[hd]at e4 fb fr c3;have gi:=Z e4;have b4:Hid (d.vs.length<=1000):=kt fb.lv (by decide);have au:=Z fr;have d7:=Z c3;have gs:=Z (jU c3.1);clear HR dc e4 fb fr c3 hd iP;generalize P.length=pl at*;go_upto_region 9 with(go_at_call 11;(refine kk gi.o ?_;rintro e w3⟨c,p,C,FM,rfl,hJ,hw,hG⟩;have cl:=Z hJ;have d2:=Z hw;have gy:=Z hG;clear hJ hw hG))
  obtain⟨T,hT⟩:=Qe w3.heap.size;obtain⟨w4,d1⟩:=Qe (w3.alloc (kb #[kc (X ⟨c,0,Y⟩),kc (X ⟨p,0,Y⟩)] 27));have c7:TS w T c p d C FM w4:=by
   have hy:Bw w3 w4:=by rw[<- d1];exact(kn _ w3).alloc (kl _) _
   refine⟨cl.o.below hy,λk H=>⟨kt L.o.size (gy.o k H),λe=>?_⟩,by rw[<- d1,<- hT];exact lB w3 _,(L.o.trans (d2.o.mono L.o.size)).trans (hy.mono (kt L.o.size d2.o.size))⟩;have:k<w3.heap.size:=H.elim (cl.cat.lt k) (cl.mod.lt k);omega
  have gQ:=Z c7;have gn:=Z (Ao C w4 c d c7.pr.cat b4.o);have t0:w4.cell? ⟨T,0,Y⟩=X (kc (X ⟨c,0,Y⟩)):=(aa c7.tb 0).trans rfl;have t1:w4.cell? ⟨T,1,Y⟩=X (kc (X ⟨p,0,Y⟩)):=(aa c7.tb 1).trans rfl;rw[hT,d1];clear hT d1 cl L d2 gy gi c7;go_upto_region 12 with(go_at_call 15;(refine kk gn.o ?_;rintro e w5⟨v8,F5,rfl,hC,hS,V,hn⟩;obtain⟨a8,c8,rfl⟩:=aG V;have cs:=Z (gQ.o.cat hC hS);have b7:=Z (aD V (kd _));have d5:=Z hn;clear hC hS V hn))
  clear t0 t1;have t0:w5.cell? ⟨T,0,Y⟩=X (kc (X ⟨c,0,Y⟩)):=(aa cs.tb 0).trans rfl;have gq:=Z (dX F5 w5 c d cs.pr.cat b4.o);go_upto_region 13 with(go_at_call 18;(refine kk gq.o ?_;rintro e w6⟨v9,F6,rfl,hC,hS,V,hn⟩;obtain⟨a9,c9,rfl⟩:=aG V;have B:Hid (US w T c p d (.slice a8 (sameC d).length c8) (.slice a9 (titlesC d).length c9) F6 FM w6):=⟨cs.o.cat hC hS,(fA b7.o d5.o hS).1,(fA b7.o d5.o hS).2,aD V (kd _),hn⟩;clear hC hS V hn))
  clear t0 gq gn gQ cs b7 d5;have dz:=Z (yF au.ok);have d4:=Z (C2 d b4.o);obtain⟨tl,d0⟩:=Qe ((titlesC d).length);have e0:=Z d0;rw[d0];have k8:tl<=1000:=d0▸d4.2.1;clear d0;go_wp2_with fail;go_loopw [10,11] (λmn i wr=>∃(j:Nat)(C:Nat->Prop),j<=tl/\i=J U j/\mn=J U ((((titlesC d).take j).map λt=>(membersC d t).length).sum:Nat)/\Hid (US w T c p d (.slice a8 (sameC d).length c8) (.slice a9 (titlesC d).length c9) C FM wr)) (λ_ i _=>tl-(intOf i).toNat)
  case' atStart=>exact⟨0,F6,kd _,rfl,rfl,B.o⟩
  case' round=>
   clear B;obtain⟨j,C,hj,rfl,rfl,B⟩:=hrel;by_cases b1:j<tl;rotate_left
   .obtain rfl:j=tl:=by omega
    have i3:¬(j:Int)<j:=by omega
    have hz:(((titlesC d).take j).map λt=>(membersC d t).length).sum=(sameC d).length:=by rw[<- e0.o,l1];exact dz.o
    rw[hz];clear hz dz;obtain⟨W0,rfl⟩:∃W,W=wr:=⟨_,rfl⟩;obtain⟨v1,v2,v3,G,a6⟩:=B.ts.pr.mod;obtain⟨a1,c1,rfl⟩:=aQ a6.vs;obtain⟨n,hn⟩:=Qe G.length;have d6:=Z hn;have g2:=a6.vx;have cP:n=d.vs.length:=by rw[<- hn,<- g2,kx]
    have fc:n<=1000:=cP▸b4.o;have f3:=B.ts.tb
    have HP:Hid (∀W,Bw W0 W->(W.cell? ⟨T,1,Y⟩=X (kc (X ⟨p,0,Y⟩)))/\W.cell? ⟨p,0,Y⟩=X (g9 a1 n c1)):=λW hb=>
     ⟨(aa ((hb.block _ (ae f3)).trans f3) 1).trans rfl,(aa ((hb.block _ (a6.lt p a6.fp)).trans a6.blk) 0).trans (by rw[hn];rfl)⟩
    have HV:Hid (∀q(hq:q<G.length),∃g,a1=X ⟨g,0,Y⟩/\∀W,Bw W0 W->∀i u,(verCells G[q])[i]?=X u->W.cell? ⟨g,q*6+i,Y⟩=X u):=λq hq=>by
     obtain⟨g,c,hv,hg,A⟩:=cV (enc:=verCells) (λ_=>rfl) a6.vs q hq;injection hv with e1 e2 e3
     exact⟨g,e1,λW o i u hu=>by rw[(an o).1 g _ hg];exact A i u hu⟩
    have gx:Hid (∀q(hq:q<G.length),∃a c,G[q].2.2=.slice a G[q].2.1.2.fields.length c):=λq hq=>by obtain⟨lo,hi,hf,_⟩:=a6.fx _ (ks hq);exact hf.shape
    have dk:Hid (∀q∈G,bo q.2.1.2.fields/\∀W,Bw W0 W->ag 0 W.heap.size W q.2.2 q.2.1.2.fields):=λq hq=>by obtain⟨lo,hi,hf,hh,_⟩:=a6.fx q hq;refine⟨(ek (a6.ok.right (q.1,q.2.1) (by rw[<- a6.vx];exact List.mem_map.2 ⟨q,hq,rfl⟩))).2.2,λW o=>?_⟩;exact(hf.kept ((aY o hh).mono (kd _) (kl _))).mono (kd _) (kt hh o.size)
    have gP:Hid ((recX G).map (·.1)=d.vs.map λp=>p.2.2):=by unfold Hid recX;rw[<- g2,List.map_map,List.map_map];rfl
    have cq:Hid (∀W,Bw W0 W->W.ownsRow 0 69 4 (.slice a8 (sameC d).length c8) (sameC d).length ((sameC d).flatMap pkCells)):=λW o=>aE B.r8 o;have gt:=Z B.ts.bw;have bA:Hid (∀q∈pairsR (d.vs.map λp=>p.2.2),∃(h1:q.1<(sameC d).length)(h2:q.2<(sameC d).length),(sameC d)[q.1].2=(sameC d)[q.2].2):=tU d7.1 d7.2;have bl:(sameC d).length=n:=by rw[fv,gs.o,cP]
    obtain⟨SM,eQ⟩:=Qe (sameC d);rw[eQ]at bl bA cq;rw[eQ,bl];rw[bl]at cq;have dx:=Z bl;have d9:Hid ((pairsR (d.vs.map λp=>p.2.2)).length<=1000000):=by have h1:=nZ (d.vs.map λp=>p.2.2);rw[kx,<- cP]at h1;exact kt h1 (Nat.mul_le_mul fc fc)
    obtain⟨PR,ej⟩:=Qe (pairsR (d.vs.map λp=>p.2.2));have gO:Hid (pairsR ((recX G).map (·.1))=PR):=by unfold Hid;rw[gP.o,ej]
    rw[ej]at bA d9;have cg:Hid (∀q,q<SM.length->q<n):=λq hq=>bl▸hq;clear cP B a6 hn g2 f3 eQ ej bl e0 d4 gs d7 gP au;go_wp2_with fail;go_loopw [16,17] (λv i wx=>∃(q:Nat)(va:Option Addr)(vc:Nat),q<=n/\v=g9 va q vc/\i=J U q/\Hid (wx.ownsRow W0.heap.size 62 3 (g9 va q vc) q ((recX (G.take q)).flatMap rdCells))/\Hid (Bw W0 wx)) (λ_ i _=>n-(intOf i).toNat)
    exact⟨0,Y,0,kd _,rfl,rfl,lQ _ _ _ _,kn _ _⟩;obtain⟨q,j1,j2,hq,rfl,rfl,HO,L⟩:=hrel;obtain⟨p0,p1⟩:=HP _ L.o;by_cases b1:q<n
    .have cQ:q<G.length:=by rw[d6.o];exact b1
     have i4:(q:Int)<n:=by omega
     obtain⟨g,rfl,hg⟩:=HV q cQ;obtain⟨xa,xc,E⟩:=gx q cQ;have a2:Hid (recX (G.take (q+1))=recX (G.take q)++[(G[q].2.1.2,G[q].2.2)]):=by unfold Hid recX;rw[lb cQ,ls];rfl
     obtain⟨x,hP⟩:=Qe (G[q]);rw[hP]at hg E a2;obtain⟨⟨k1,k2⟩,⟨nn,r⟩,y⟩:=x;dsimp only at E a2;subst E;have HG:Hid (∀W,Bw W0 W->W.cell? ⟨g,q*6+3,Y⟩=X (J gp r.kind.toNat)/\W.cell? ⟨g,q*6+4,Y⟩=X (J gp r.level.toNat)/\W.cell? ⟨g,q*6+5,Y⟩=X (g9 xa r.fields.length xc)):=λW o=>⟨hg W o 3 _ rfl,hg W o 4 _ rfl,hg W o 5 _ rfl⟩;obtain⟨y0,y1,y2⟩:=HG _ L.o;clear hg hP cQ;go_wp2_with (at_builtin;refine sU [J gp r.kind.toNat,J gp r.level.toNat,g9 xa r.fields.length xc] HO.o L.o (kl _) underlying59 i62 ?_ (hn:=by omega);intro gd gf z V hb;have iF:=Z V;have d3:=Z hb;clear V hb)
     go_roundw;exact⟨q+1,gd,gf,b1,rfl,by go_num,by unfold Hid;rw[a2.o,kz];exact iF.o,d3.o⟩;simp[intOf];omega
    obtain rfl:q=n:=by omega
    have i4:¬(q:Int)<q:=by omega
    have hL:G.take q=G:=List.take_of_length_le (Nat.le_of_eq d6.o);rw[hL]at HO;have fy:(recX G).length=q:=by unfold recX;rw[kx,d6.o]
    have b8:=yJ _ (g9 j1 q j2) (recX G) ⟨by rw[fy];exact aN (aD HO.o (kd _)),λp hp=>by
     obtain⟨x,E,rfl⟩:=List.mem_map.1 hp;exact(dk.o x E).2 _ L.o⟩ (by rw[fy];exact fc) (λp hp=>by
     obtain⟨x,E,rfl⟩:=List.mem_map.1 hp;exact(dk x E).1)
    rw[gO.o]at b8;have b8:=Z b8;have j0:=d9.o;obtain⟨pn,fs⟩:=Qe PR.length;have ch:=Z fs;rw[fs]at b8 j0;clear hL fy fs HV gx dk gO d9;go_wp2_with (go_at_call 26;(refine kk b8.o ?_;rintro e W5⟨v',rfl,V,hb⟩;obtain⟨pa,pc,rfl⟩:=aG V;have b7:=Z V;have cc:=Z (btr L.o hb L.o.size);clear V hb))
    have da:Hid (∀r(hr:r<PR.length),∃R,pa=X ⟨R,0,Y⟩/\∀W,Bw W5 W->W.cell? ⟨R,r*2,Y⟩=X (J U (PR[r].1:Int))/\W.cell? ⟨R,r*2+1,Y⟩=X (J U (PR[r].2:Int))):=λr hr=>by
     obtain⟨R,c',hv,hg,A⟩:=cV (enc:=cN) (λ_=>rfl) (aD (ch.o▸b7.o) (kd _)) r hr;injection hv with e1 e2 e3
     exact⟨R,e1,λW o=>by rw[(an o).1 R _ hg,(an o).1 R _ hg];exact⟨A 0 _ rfl,A 1 _ rfl⟩⟩
    have cp:Hid (∀r(hr:r<SM.length),∃R,a8=X ⟨R,0,Y⟩/\∀W,Bw W5 W->W.cell? ⟨R,r*4+2,Y⟩=X (J U SM[r].2.1)/\W.cell? ⟨R,r*4+3,Y⟩=X (J U SM[r].2.2)):=λr hr=>by
     obtain⟨R,c',hv,hg,A⟩:=cV (enc:=pkCells) (λ_=>rfl) (aD (dx.symm▸cq.o W5 cc.o) (kd _)) r hr;injection hv with e1 e2 e3
     exact⟨R,e1,λW o=>by rw[(an o).1 R _ hg,(an o).1 R _ hg];exact⟨A 2 _ rfl,A 3 _ rfl⟩⟩
    clear cq b7 HO HP b8 p0 p1;go_loopw [19] (λi wx=>∃r:Nat,r<=pn/\i=J U r/\Hid (Bw W5 wx)) (λi _=>pn-(intOf i).toNat)
    case atStart=>exact⟨0,kd _,rfl,kn _ _⟩
    obtain⟨r,hr,rfl,al⟩:=hrel;by_cases hrn:r<pn;rotate_left
    .obtain rfl:r=pn:=by omega
     have i5:¬(r:Int)<r:=by omega
     have HF:=Z (gt.trans ((btr cc.o al.o cc.size).mono gt.size));clear bA cp da cg ch dx cc al L;go_wp2_with fail;go_ret;exact⟨rfl,HF.o⟩
    have fz:r<PR.length:=by rw[ch.o];exact hrn
    have i5:(r:Int)<pn:=by omega
    obtain⟨R,rfl,A⟩:=da r fz;obtain⟨h1,h2,he⟩:=bA _ (ks fz);obtain⟨g8,e8,ad⟩:=cp _ h1;obtain⟨ja,bb,ax⟩:=cp _ h2;rw[e8]at bb;injection bb with bb
    injection bb with bb
    subst bb;subst e8;rw[he]at ad;have n1:=cg _ h1;have n2:=cg _ h2;obtain⟨sx,hK⟩:=Qe (SM[PR[r].2]);rw[hK]at ad ax;obtain⟨⟨s1,s2⟩,⟨s3,s4⟩⟩:=sx;clear hK he h1 h2;generalize PR[r]=pr at*;obtain⟨pi,pj⟩:=pr;dsimp only at A ad ax n1 n2;have D:Bw wr wr.drew:=(kn _ _).drew;have hf:∀W,Bw wr W->(W.cell? ⟨R,r*2,Y⟩=X (J U (pi:Int))/\W.cell? ⟨R,r*2+1,Y⟩=X (J U (pj:Int)))/\(W.cell? ⟨g8,pi*4+2,Y⟩=X (J U s3)/\W.cell? ⟨g8,pi*4+3,Y⟩=X (J U s4))/\W.cell? ⟨g8,pj*4+2,Y⟩=X (J U s3)/\W.cell? ⟨g8,pj*4+3,Y⟩=X (J U s4):=λW o=>by have hb:=btr al.o o al.size;exact⟨A W hb,ad W hb,ax W hb⟩
    have i6:(pi:Int)<q:=by omega
    have i7:(pj:Int)<q:=by omega
    have i8:¬(q:Int)<=pj:=by omega
    clear A ad ax fz bA cp da cg ch dx;go_upto_region 36 with fail;refine Wb wr 999 ?_;refine Qd [0,1,2,3,4,5,6,7,8] D hf ?_;refine Qd [9,10,11,12,13,14,15,16,17] D hf ?_;refine Qd [18,19,20,21,22,23,24,25,26,27,28] D hf ?_;refine dN ?_;clear hf;have d3:=Z (btr al.o D al.size);go_wp2_with fail;go_roundw
    case rel=>exact⟨r+1,hrn,by go_num,d3.o⟩
    simp[intOf];omega
   have c0:j<(titlesC d).length:=by rw[e0.o];exact b1
   have i3:(j:Int)<tl:=by omega
   obtain⟨ad,ax⟩:=yj (λt=>(membersC d t).length) (titlesC d) j c0;rw[dz.o]at ax;have bk:=ks c0;obtain⟨m,hm⟩:=wD au.ok bk;have bB:=Z (kI au.ok bk);have b9:Hid (∀k∈membersC d (titlesC d)[j],titleC d k=X (titlesC d)[j]):=λk H=>tT au.ok bk H;obtain⟨s,e9,hB,bY⟩:=BR rfl B.r9 j c0;have bY:=bY j c0;have bv:Hid (∀k∈membersC d (titlesC d)[j],rkOk k):=λk H=>AD au.o bk H;obtain⟨M,hM⟩:=Qe (membersC d (titlesC d)[j]);have cz:=λ(W:ld)(h:bq C W c d)(H:rkOk (titlesC d)[j])=>bV C W c d h b4.o (titlesC d)[j] H;have f9:rkOk (titlesC d)[j]:=by obtain⟨i,hi,_,H⟩:=(fS au.ok _).1 bk;rw[<- H,bW hi];exact au.vkey _ (List.mem_filter.1 (show _∈d.vs.filter (inC d)from ks hi)).1
   rw[hM]at ad hm bB b9 bv cz;have h8:=B.o.n9 s (by rw[e9];rfl);obtain⟨t,ht⟩:=Qe ((titlesC d)[j]);rw[ht]at bY hm b9 cz f9 hM;obtain⟨t1,t2⟩:=t;have dd:=Z ad;have it:=Z ax;have bs:=Z hm;have ia:=Z f9;have aT:Hid (a9=X ⟨s,0,Y⟩/\s<wr.heap.size/\¬C s/\wr.cell? ⟨s,j*2,Y⟩=X (J U t1)/\wr.cell? ⟨s,j*2+1,Y⟩=X (J U t2)):=⟨e9,hB,h8,bY⟩;subst e9;clear ad ax bk hm f9 hB bY h8 c0 ht;have aS:=B.ts.below (kn _ wr).drew;have hO:=B.below (kn _ wr).drew;have e5:=cz wr.drew aS.pr.cat ia.o;dsimp only[recK]at e5;have ac:wr.drew.heap[T]?=X (ff c p)/\wr.drew.heap[s]?=wr.heap[s]?:=⟨aS.tb,rfl⟩
   have hY:∀W:ld,(W.heap[T]?=X (ff c p)/\W.heap[s]?=wr.heap[s]?)->(W.cell? ⟨T,0,Y⟩=X (kc (X ⟨c,0,Y⟩)))/\W.cell? ⟨s,j*2,Y⟩=X (J U t1)/\W.cell? ⟨s,j*2+1,Y⟩=X (J U t2):=λW o=>
    ⟨(aa o.1 0).trans rfl,(ko (a:=⟨s,j*2,Y⟩) o.2).trans aT.2.2.2.1,(ko (a:=⟨s,j*2+1,Y⟩) o.2).trans aT.2.2.2.2⟩
   clear cz;go_upto_region 17 with fail;refine wT (λW=>W.heap[T]?=X (ff c p)/\W.heap[s]?=wr.heap[s]?) 999 ?_;refine Qd [0,1,2,3,4,5] ac hY ?_;refine Dp 6 λK O=>?_;go_simp;go_at_call 22;with_reducible refine kk e5 ?_
   rintro e z⟨ka,F7,rfl,h5,bO,fl,hH⟩;have g1:=hO.cat h5 bO;have c5:z.heap[T]?=X (ff c p)/\z.heap[s]?=wr.heap[s]?:=⟨g1.ts.tb,bO.block s aT.2.1 aT.2.2.1⟩;refine O _ _ (λ_=>c5) ?_;clear O K;obtain⟨j3,j4,rfl⟩:=aG fl;refine Qc [7] c5 ?_;refine dN ?_;have iv:=Z g1;have bt:=Z (aD fl (kd _));have cd:=Z hH;have a3:Hid (s<z.heap.size/\¬F7 s/\z.cell? ⟨s,j*2,Y⟩=X (J U t1)/\z.cell? ⟨s,j*2+1,Y⟩=X (J U t2)):=⟨kq aT.2.1 bO.size,bO.not aT.2.1 aT.2.2.1,(hY z c5).2.1,(hY z c5).2.2⟩;clear aS hO e5 ac hY h5 bO fl hH g1 c5 B hM;obtain⟨ml,c2⟩:=Qe M.length;have b6:=Z c2;have b5:Hid (0<ml):=by unfold Hid;rw[<- c2,bs.o];simp
   rw[c2]at dd bt;rw[c2];clear c2;obtain⟨f,iN,cy,f5⟩:=BR b6.o bt.o 0 (by rw[b6.o];exact b5.o);have h0:=f5 0 (by rw[b6.o];exact b5.o);have h7:M[0]'(by rw[b6.o];exact b5.o)=(t1,t2):=by simp only[bs.o,List.getElem_cons_zero]
   rw[h7]at h0;subst iN;have b3:Hid (f<z.heap.size/\¬F7 f):=⟨cy,cd f rfl⟩;have hf:∀W,Bw z W->(W.cell? ⟨f,0,Y⟩=X (J U t1)/\W.cell? ⟨f,1,Y⟩=X (J U t2))/\W.cell? ⟨s,j*2,Y⟩=X (J U t1)/\W.cell? ⟨s,j*2+1,Y⟩=X (J U t2):=λW o=>by rw[(an o).1 f _ cy,(an o).1 f _ cy,(an o).1 s _ a3.o.1,(an o).1 s _ a3.o.1];exact⟨by simpa using h0,a3.o.2.2⟩
   have z0:((ml:Int)==0)=false:=by have:=b5.o;simp;omega
   have z1:(0:Int)<ml:=by have:=b5.o;omega
   have z2:0<ml:=b5.o;have D:Bw z z.drew:=(kn _ _).drew;have b2:Hid (∀q(hq:q<M.length),z.cell? ⟨f,q*2,Y⟩=X (J U M[q].1)/\z.cell? ⟨f,q*2+1,Y⟩=X (J U M[q].2)):=f5;clear f5 h0 h7 cy;go_upto_region 18 with fail;refine Wb z 999 ?_;refine Qc [0,1,2,3] D ?_;refine Qd [4,5,6,7,8,9,10,11] D hf ?_;refine Qc [12] D ?_;refine dN ?_;clear hf D z0 z1 z2;obtain⟨cn,f6⟩:=Qe ((List.take j (List.map (λt=>(membersC d t).length) (titlesC d))).sum);have f7:(((titlesC d).take j).map λt=>(membersC d t).length).sum=cn:=by rw[<- f6,List.map_take]
   have jn:cn+ml<=1000:=by have h1:=dd.o;have h2:=it.o;have h3:=d4.1;rw[f7]at h1;omega
   have i0:Hid ((((titlesC d).take (j+1)).map λt=>(membersC d t).length).sum=cn+ml):=f7▸dd.o;rw[f6];clear f6 f7;go_wp2_with fail;go_loopw [10,13] (λmn i wr=>∃(q:Nat)(C:Nat->Prop),q<=ml/\i=J U q/\mn=J U ((cn+q:Nat):Int)/\Hid (US w T c p d (.slice a8 (sameC d).length c8) (.slice (X ⟨s,0,Y⟩) (titlesC d).length c9) C FM wr)/\Hid (¬C f/\¬C s/\wr.heap[f]?=z.heap[f]? /\wr.heap[s]?=z.heap[s]? /\z.heap.size<=wr.heap.size)) (λ_ i _=>ml-(intOf i).toNat)
   case atStart=>exact⟨0,F7,kd _,rfl,by rw[Nat.add_zero],iv.o.below (kn _ _).drew,b3.o.2,a3.o.2.1,rfl,rfl,kl _⟩
   obtain⟨q,C,hq,rfl,rfl,B,HK⟩:=hrel;by_cases hqm:q<ml;rotate_left
   .obtain rfl:q=ml:=by omega
    have i5:¬(q:Int)<q:=by omega
    clear HK a3 b3 bB b2 cd b9 bv bs bt b6;go_wp2_with fail;exact⟨⟨j+1,C,by omega,by go_num,by rw[i0.o],B⟩,by simp[intOf];omega⟩
   have c4:q<M.length:=by rw[b6.o];exact hqm
   have i4:(q:Int)<ml:=by omega
   obtain⟨g5,g6⟩:=b2 q c4;have gb:=b9 _ (ks c4);have g7:=bv _ (ks c4);have g0:∀r,q=r+1->∃y:RK,z.cell? ⟨f,r*2,Y⟩=X (J U y.1)/\z.cell? ⟨f,r*2+1,Y⟩=X (J U y.2)/\ltRK y M[q]=true:=λr hr=>by
    subst hr;have ft:r<M.length:=by omega
    exact⟨M[r],(b2.o r ft).1,(b2.o r ft).2,List.pairwise_iff_getElem.1 bB.o r (r+1) ft c4 (by omega)⟩
   obtain⟨x,E⟩:=Qe (M[q]);rw[E]at g5 g6 gb g7 g0;clear E;have dy:=Z g0;obtain⟨x1,x2⟩:=x;have HX:Hid (z.cell? ⟨f,q*2,Y⟩=X (J U x1)/\z.cell? ⟨f,q*2+1,Y⟩=X (J U x2)):=⟨g5,g6⟩;have cu:=λ(F:Nat->Prop)(W:ld)(h:bq F W c d)=>yf F W c d h b4.o (x1,x2) g7;rw[gb]at cu;dsimp only[recK,Option.getD,Option.isSome]at cu;have cb:=Z cu;clear g5 g6 gb g7 g0 cu c4;have aS:=B.ts.below (kn _ wr).drew;have ac:wr.drew.heap[T]?=X (ff c p)/\wr.drew.heap[f]?=z.heap[f]?:=⟨aS.tb,HK.2.2.1⟩
   have hY:∀W:ld,(W.heap[T]?=X (ff c p)/\W.heap[f]?=z.heap[f]?)->(W.cell? ⟨T,0,Y⟩=X (kc (X ⟨c,0,Y⟩)))/\W.cell? ⟨f,q*2,Y⟩=X (J U x1)/\W.cell? ⟨f,q*2+1,Y⟩=X (J U x2):=λW o=>
    ⟨(aa o.1 0).trans rfl,(ko (a:=⟨f,q*2,Y⟩) o.2).trans HX.1,(ko (a:=⟨f,q*2+1,Y⟩) o.2).trans HX.2⟩
   have f2:T<wr.heap.size:=ae aS.tb;have bc:f<wr.heap.size:=kq b3.1 HK.2.2.2.2;have f4:¬C T:=λhf=>(B.ts.lo T (.inl hf)).2 rfl;go_upto_region 23 with fail;go_cut [14,15] (λt b wx=>∃(Q:Nat)(FC':Nat->Prop),t=kc (X ⟨Q,0,Y⟩)/\b=ho true/\Hid (wx.heap[Q]?=X (kb #[J U t1,J U t2] 36 (0,0)))/\Hid (bq FC' wx c d/\ah C wr FC' wx))
   case first=>
    refine wT (λW=>W.heap[T]?=X (ff c p)/\W.heap[f]?=z.heap[f]?) 999 ?_;refine Qd [0,1,2,3,4,5] ac hY ?_;refine bZ (i:=6) (j:=10) rfl rfl (by kernel_rfl) rfl rfl (λK O=>?_) (λK O=>?_)
    .go_simp;go_at_call 12;with_reducible refine kk (cb.o C wr.drew aS.pr.cat) ?_
     rintro e w8⟨F8,rfl,h6,a5⟩;have ay:w8.heap[T]?=X (ff c p)/\w8.heap[f]?=z.heap[f]?:=⟨(a5.block T f2 f4).trans ac.1,(a5.block f bc HK.1).trans ac.2⟩;refine O _ _ (λ_=>ay) ?_;clear O K;refine Qc [7,8,9] ay ?_;obtain⟨Q,hQ⟩:=Qe w8.heap.size;obtain⟨I,g4⟩:=Qe (w8.alloc (kb #[J U 0,J U 0] 36));have a4:I.heap[Q]?=X (kb #[J U 0,J U 0] 36 (0,0)):=by rw[<- g4,<- hQ];exact lB w8 _
     have cv:Bw w8 I:=by rw[<- g4];exact(kn _ w8).alloc (kl _) _
     have er:wr.heap.size<=Q:=hQ▸a5.size;have eq:¬F8 Q:=λhf=>by have:=h6.lt Q hf;omega
     have e7:=h6.below cv;have es:ah C wr F8 I:=((ah.of_below (kn _ wr).drew).trans a5).via (cv.mono a5.size);have aC:I.heap[T]?=X (ff c p)/\I.heap[f]?=z.heap[f]?:=⟨(cv.block T (by omega)).trans ay.1,(cv.block f (by omega)).trans ay.2⟩;refine Dp 10 λK O=>?_;go_simp;try rw[hQ,g4]
     refine O _ _ (λ_=>aC) ?_;clear O K;have f0:=ab a4 0;have f1:=ab a4 1;have n0:I.cell? ⟨Q,0,Y⟩=X (J U 0):=(aa a4 0).trans rfl;have n1:I.cell? ⟨Q,1,Y⟩=X (J U 0):=(aa a4 1).trans rfl;obtain⟨H,em,eg,ex⟩:=vH e7 es er eq a4 (J U t1) (J U t2);have c6:(((I.setCell ⟨Q,0,Y⟩ (J U t1)).setCell ⟨Q,1,Y⟩ (J U t2)).heap[T]?=X (ff c p))/\((I.setCell ⟨Q,0,Y⟩ (J U t1)).setCell ⟨Q,1,Y⟩ (J U t2)).heap[f]?=z.heap[f]?:=⟨(H T (by omega)).trans aC.1,(H f (by omega)).trans aC.2⟩;refine Ds 11 c6 ?_;refine Qc [12] c6 ?_;refine dN ?_;go_wp2_with fail;go_meet;exact⟨Q,_,rfl,rfl,em,eg,ex⟩
    go_simp;obtain⟨Q,hQ⟩:=Qe wr.heap.size;obtain⟨w8,g3⟩:=Qe ((wr.alloc (kb #[J U 0,J U 0] 36)).drew);have h9:w8.heap[Q]?=X (kb #[J U 0,J U 0] 36 (0,0)):=by rw[<- g3,<- hQ];exact lB wr _
    have bd:Bw wr w8:=by rw[<- g3];exact((kn _ wr).alloc (kl _) _).drew
    have ha:¬C Q:=B.ts.fresh (Nat.le_of_eq hQ);have ay:w8.heap[T]?=X (ff c p)/\w8.heap[f]?=z.heap[f]?:=⟨(bd.block T f2).trans ac.1,(bd.block f bc).trans ac.2⟩;have hl:Q<w8.heap.size:=ae h9;try rw[hQ,g3]
    refine O _ _ (λ_=>ay) ?_;clear O K;refine Dp 6 λK O=>?_;go_simp;go_at_call 12;with_reducible refine kk (cb.o C w8 (B.o.ts.below bd).pr.cat) ?_
    rintro e I⟨F9,rfl,e7,a5⟩;have iQ:=(B.ts.below bd).tb;have aC:I.heap[T]?=X (ff c p)/\I.heap[f]?=z.heap[f]?:=⟨(a5.block T (ae iQ) f4).trans ay.1,(a5.block f (kq bc bd.size) HK.1).trans ay.2⟩;have a4:=(a5.block Q hl ha).trans h9;have eq:¬F9 Q:=a5.not hl ha;have er:wr.heap.size<=Q:=Nat.le_of_eq hQ;have es:ah C wr F9 I:=(ah.of_below bd).trans a5;refine O _ _ (λ_=>aC) ?_;clear O K;refine Qc [7,8,9] aC ?_;have f0:=ab a4 0;have f1:=ab a4 1;have n0:I.cell? ⟨Q,0,Y⟩=X (J U 0):=(aa a4 0).trans rfl;have n1:I.cell? ⟨Q,1,Y⟩=X (J U 0):=(aa a4 1).trans rfl;obtain⟨H,em,eg,ex⟩:=vH e7 es er eq a4 (J U t1) (J U t2);have c6:(((I.setCell ⟨Q,0,Y⟩ (J U t1)).setCell ⟨Q,1,Y⟩ (J U t2)).heap[T]?=X (ff c p))/\((I.setCell ⟨Q,0,Y⟩ (J U t1)).setCell ⟨Q,1,Y⟩ (J U t2)).heap[f]?=z.heap[f]?:=⟨(H T (by omega)).trans aC.1,(H f (by omega)).trans aC.2⟩;refine Ds 11 c6 ?_;refine Qc [12] c6 ?_;refine dN ?_;go_wp2_with fail;go_meet;exact⟨Q,_,rfl,rfl,em,eg,ex⟩
   obtain⟨Q,F8,rfl,rfl,cm,ao⟩:=hcut;have h4:=Z (B.cat ao.1 ao.2);have hD:¬F8 f/\¬F8 s/\wc.heap[f]?=z.heap[f]? /\wc.heap[s]?=z.heap[s]? /\z.heap.size<=wc.heap.size:=by have e1:s<wr.heap.size:=kq a3.1 HK.2.2.2.2;exact⟨ao.2.not bc HK.1,ao.2.not e1 HK.2.1,(ao.2.block f bc HK.1).trans HK.2.2.1,(ao.2.block s e1 HK.2.1).trans HK.2.2.2.1,kt HK.2.2.2.2 ao.2.size⟩
   have a0:=Z hD;have b0:∀W:ld,Bw wc W->(∀i u,z.cell? ⟨f,i,Y⟩=X u->W.cell? ⟨f,i,Y⟩=X u)/\(W.cell? ⟨s,j*2,Y⟩=X (J U t1)/\W.cell? ⟨s,j*2+1,Y⟩=X (J U t2))/\W.cell? ⟨Q,0,Y⟩=X (J U t1)/\W.cell? ⟨Q,1,Y⟩=X (J U t2):=λW o=>by have e1:=o.block f (kq b3.1 a0.2.2.2.2);have e2:=o.block s (kq a3.1 a0.2.2.2.2);have e3:=o.block Q (ae cm.o);refine⟨λi u h=>(ko (a:=⟨f,i,Y⟩) (e1.trans a0.2.2.1)).trans h,⟨(ko (a:=⟨s,j*2,Y⟩) (e2.trans a0.2.2.2.1)).trans a3.2.2.1,(ko (a:=⟨s,j*2+1,Y⟩) (e2.trans a0.2.2.2.1)).trans a3.2.2.2⟩,(aa (e3.trans cm.o) 0).trans rfl,(aa (e3.trans cm.o) 1).trans rfl⟩
   have cx:∀W:ld,Bw wc W->(W.cell? ⟨s,j*2,Y⟩=X (J U t1)/\W.cell? ⟨s,j*2+1,Y⟩=X (J U t2))/\W.cell? ⟨Q,0,Y⟩=X (J U t1)/\W.cell? ⟨Q,1,Y⟩=X (J U t2):=λW o=>(b0 W o).2;have D:Bw wc wc.drew:=(kn _ _).drew;clear aS ac hY f2 bc f4 hD B HK ao cm;rcases q with _|q
   .clear dy;go_upto_region 24 with fail;refine Wb wc 999 ?_;refine Qc [0,1,2] D ?_;refine Qd [3,4,5,6,7,8] D cx ?_;refine Qc [9,10,11,12,13] D ?_;refine Qg [14,15,16,17,18,19,20,21,22,23,24] D ?_;refine Qc [25,26] D ?_;refine dN ?_;clear b0 cx HX cb a3 b3 bB b2 cd b9 bv bs bt;go_wp2_with fail;exact⟨⟨1,F8,by omega,rfl,by go_num,h4.o.below D,a0.o⟩,by simp[intOf];omega⟩
   obtain⟨⟨y1,y2⟩,hR,hV,b1⟩:=dy q rfl;have hA:∀W:ld,Bw wc W->(W.cell? ⟨f,q*2,Y⟩=X (J U y1)/\W.cell? ⟨f,q*2+1,Y⟩=X (J U y2))/\W.cell? ⟨f,(q+1)*2,Y⟩=X (J U x1)/\W.cell? ⟨f,(q+1)*2+1,Y⟩=X (J U x2):=λW o=>⟨⟨(b0 W o).1 _ _ hR,(b0 W o).1 _ _ hV⟩,(b0 W o).1 _ _ HX.1,(b0 W o).1 _ _ HX.2⟩;have e6:∀W:ld,Bw wc W->Calls prog 25 #[recK (y1,y2),recK (x1,x2)] W λe W'=>e=fn (ho true)/\Bw wc W':=λW o=>by have h:=iq (y1,y2) (x1,x2) W;rw[b1]at h;exact kk h λe W' h=>⟨h.1,btr o h.2 o.size⟩
   dsimp only[recK]at e6;have k7:q<ml:=by omega
   have k5:(q:Int)+1<ml:=by omega
   have k6:(q:Int)<ml:=by omega
   have k4:(q:Int)<=1000:=by omega
   have k9:Go.IntKind.i64.wrap (q:Int)=q:=by rw[Go.IntKind.wrap_i64];omega
   clear b0 dy hR hV b1 HX cb bB b2 cd b9 bv bs bt;go_upto_region 24 with fail;refine Wb wc 999 ?_;refine Qc [0,1,2] D ?_;refine Qd [3,4,5,6,7,8] D cx ?_;refine Qc [9,10,11,12,13] D ?_;clear cx;refine Qd [14,15,16,17,18,19,20,21,22] D hA ?_;refine call1 23 D e6 λW av=>?_;refine Qc [24,25,26] av ?_;refine dN ?_;clear hA e6;go_wp2_with fail;exact⟨⟨q+2,F8,by omega,by go_num,by go_num,h4.o.below av,a0.o.1,a0.o.2.1,(av.block f (kq b3.o.1 a0.o.2.2.2.2)).trans a0.o.2.2.1,(av.block s (kq a3.o.1 a0.o.2.2.2.2)).trans a0.o.2.2.2.1,kt a0.o.2.2.2.2 av.size⟩,by simp[intOf];omega⟩
end
end Go.Proofs.YtjcimanddakkaaaGreatDoor
