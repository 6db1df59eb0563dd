/- Lemmas. -/
import Derived.Test.YtjcimanddakkaaaGreatDoorCT32
set_option maxRecDepth 100000
set_option maxHeartbeats 8000000
namespace Go.Proofs.YtjcimanddakkaaaGreatDoor
open Go.Ending renaming returned→fb
open Go.Value renaming slice→fc,int→J,bool→fn
open _root_.Option renaming some→X,none→Y
open Go.IntKind renaming u8→fl,i64→U
open Go.Lib renaming hid→Z
open Go.Obj renaming cells→fr
open Tryz
open Go.Calls renaming mono→fs
open _root_.Nat renaming zero_le→ft,le_refl→fz,le_trans→gf,lt_of_lt_of_le→g6,le_of_lt→ht,eq_zero_or_pos→hD
open Go.RowKit.Below renaming refl→fy,heap_setCell→it
open _root_.List renaming take_succ_eq_append_getElem→gb,take_of_length_le→gd,length_map→gi,flatMap_append→gn,getElem_mem→gq,range→gt,getElem?_eq_getElem→gx,length_append→gy,replicate→gz,append_nil→gP,getElem?_map→g7,length_filter_le→g8,length_take→ho,map_append→hH,mem_singleton→hJ,filter_append→hK,append_assoc→hM,take_length→hO,getElem?_append_right→hV,drop_eq_getElem_cons→hZ,set_append_right→h6,getElem?_eq_none→h7,set_cons_zero→iv
open Go.World renaming alloc_heap_new→gp,ownsRow_nil→gQ,cell?_of_block→hI,grownBy_alloc→h8,size_setCell→h9
open Go renaming World→gO,Value→g9,Calls→hF,bodyPost_ret→hX
open Go.RowKit renaming Below→g4
open Go.Value renaming slice→hQ
open _root_.Int renaming tmod_eq_emod_of_nonneg→h5
section
open Go.RowKit Go.Maps Go.Shelf
attribute [local go_sem] Oper.semAt_some
theorem ug(a b:aG)(x y:g9)(w:gO)(ha:ah 0 w w x a.fields)(hb:ah 0 w w y b.fields)(M:br a.fields)(N:br b.fields):
 hF prog 102 #[eG a x,eG b y] w λe w'=>e=fb (pointsR a b)/\Bw w w':=by
 obtain⟨W1,xa,xc,c4,rfl,a1,bA,a6⟩:=lc a.kind a.level x a.fields w ha;obtain⟨i,ya,yc,c5,rfl,a3,bB,a7⟩:=lc b.kind b.level y b.fields W1 ((hb.kept (aW a1 (fz _))).mono (fz _) a1.size);have a2:Hid (Bw w i):=btr a1 a3 a1.size;have a8:∀W,Bw i W->Bw W1 W:=λW h=>btr a3 h a3.size;have T:Hid (∀W,Bw i W->ah 0 W W (fc xa a.fields xc) a.fields):=λW h=>(a6 W (a8 W h)).2.mono (fz _) (by have:=h.size;omega);have V:Hid (∀W,Bw i W->ah 0 W W (fc ya b.fields yc) b.fields):=λW h=>(a7 W h).2.mono (fz _) (by have:=h.size;omega)
 have A:Hid (∀W,Bw i W->(W.cell? w=X (J fl a.kind)/\W.cell? ⟨w,1,Y⟩=X (J fl a.level)/\W.cell? ⟨w,2,Y⟩=X (fc xa a.fields xc))/\
  (W.cell? W1=X (J fl b.kind)/\W.cell? ⟨W1,1,Y⟩=X (J fl b.level)/\W.cell? ⟨W1,2,Y⟩=X (fc ya b.fields yc))):=λW h=>⟨(a6 W (a8 W h)).1,(a7 W h).1⟩
 have b5:Hid (∀W,Bw i W->_):=λW h=>oD a.kind a.level _ a.fields W (T W h) M;have b6:Hid (∀W,Bw i W->_):=λW h=>oD b.kind b.level _ b.fields W (V W h) N;have b7:Hid (∀W,Bw i W->_):=λW h=>lV a.kind a.level _ a.fields W (T W h) M;have b8:Hid (∀W,Bw i W->_):=λW h=>lV b.kind b.level _ b.fields W (V W h) N;have b9:Hid (∀W,Bw i W->_):=λW h=>m9 a.kind a.level _ a.fields W (T W h) M;have bc:Hid (∀W,Bw i W->_):=λW h=>m9 b.kind b.level _ b.fields W (V W h) N;have bd:Hid (∀W,Bw i W->_):=λW h=>qR a.kind a.level _ a.fields W (T W h) M;have bk:Hid (∀W,Bw i W->_):=λW h=>qR b.kind b.level _ b.fields W (V W h) N;have H:Hid (pointsR a b=bookPts (booksR a.fields) (booksR b.fields)+titlePts (aN a.fields) (aN b.fields)+authorPts (bi a.fields) (bi b.fields)+yearPts (bx a.fields) (bx b.fields)+(if a.kind=b.kind then 0 else -40)):=rfl;have au:(booksR a.fields).length<=1000000000000:=by have:=dt a.fields a.fields M;rwa[hO]at this
 have av:(booksR b.fields).length<=1000000000000:=by have:=dt b.fields b.fields N;rwa[hO]at this
 have ax:(bi a.fields).length<=1000000000000:=gf (eW M) (by decide);have ay:(bi b.fields).length<=1000000000000:=gf (eW N) (by decide);have c7:=lu a.fields;have c9:=lu b.fields;unfold eG;clear ha hb M N a6 a7 a8 a1 a3 T V;generalize booksR a.fields=B1 at*;generalize booksR b.fields=B2 at*;generalize aN a.fields=T1 at*;generalize aN b.fields=T2 at*;generalize bi a.fields=A1 at*;generalize bi b.fields=A2 at*;generalize bx a.fields=Y1 at*;generalize bx b.fields=Y2 at*;generalize a.fields.length=n1 at*;generalize b.fields.length=n2 at*;generalize a.kind=K1 at*;generalize b.kind=K2 at*;generalize a.level=V1 at*;generalize b.level=V2 at*;have HL:Hid (B1.length<=1000000000000/\B2.length<=1000000000000/\A1.length<=1000000000000/\A2.length<=1000000000000):=⟨au,av,ax,ay⟩;obtain⟨⟨B,C,D⟩,E,F,G⟩:=A i (fy _ _);clear au av ax ay bA bB;go_enter func102,ntmps102
 go_upto_region 4 with(first
  |(go_at_call 149;((with_reducible refine fs (b5.o _ (fy _ _)) ?_);rintro e O⟨v3,rfl,K,m⟩;obtain⟨bO,c0,rfl⟩:=aw K;have r:=Z (aD K (ft _));have c:=Z m;obtain⟨⟨B,C,D⟩,E,F,G⟩:=A.o O m;clear K m))
  |(go_at_call 149;((with_reducible refine fs (b6.o _ c.o) ?_);rintro e w4⟨v4,rfl,L,l⟩;obtain⟨bY,c3,rfl⟩:=aw L;have P:=Z (aD L (ft _));have k:=Z (btr c.o l c.o.size);have r:=Z (ap r.o l);clear L l)))
 go_cut [25] (λt j=>t=fn (decide (0<B1.length)&&decide (0<B2.length))/\j=w4)
 case first=>
  generalize B1.length=q1 at*;generalize B2.length=q2 at*;rcases hD q1 with rfl|v
  .go_wp2_with fail;go_meet;exact⟨rfl,rfl⟩
  have o:(0:Int)<(q1:Int):=by omega
  rcases hD q2 with rfl|z
  .go_wp2_with fail;go_meet;exact⟨by simp,rfl⟩
  have I:(0:Int)<(q2:Int):=by omega
  go_wp2_with fail;go_meet;exact⟨by simp[v,z],rfl⟩
 obtain⟨rfl,rfl⟩:=hcut;obtain⟨d,f⟩:=Qe ((decide (0<B1.length)&&decide (0<B2.length)));rw[f];have a5:Hid (bookPts B1 B2=if d=true then(if B1.any B2.contains=true then 50 else -30)else 0):=by unfold Hid bookPts;rw[<- f];cases B1<;>cases B2<;>simp
 clear f;go_upto_if 25 with fail;go_cut [5] (λp j=>p=J U (bookPts B1 B2)/\Hid (Bw i j))
 case first=>
  have b2:=Z (oS _ _ B1 B2 wc (aM r.o) (aM P.o) (by have:=HL.o;omega) (by have:=HL.o;omega));cases d
  .go_wp2_with fail;go_meet;exact⟨by rw[a5.o];rfl,k.o⟩
  generalize B1.any B2.contains=cb at*;cases cb
  all_goals
   go_wp2_with (go_at_call 54;(refine fs b2.o ?_;rintro e w5⟨rfl,ao⟩;have g:=Z (btr k.o ao k.o.size);clear ao))
   go_meet
   exact⟨by rw[a5.o];rfl,g.o⟩
 obtain⟨rfl,g⟩:=hcut;obtain⟨⟨B,C,D⟩,E,F,G⟩:=A wc g.o;clear a5 r P c k
 go_upto_region 10 with(first
  |(go_at_call 98;((with_reducible refine fs (b7.o _ g.o) ?_);rintro e O⟨rfl,m⟩;have c:=Z (btr g.o m g.o.size);obtain⟨⟨B,C,D⟩,E,F,G⟩:=A.o O c.o;clear m))
  |(go_at_call 98;((with_reducible refine fs (b8.o _ c.o) ?_);rintro e w4⟨rfl,l⟩;have k:=Z (btr c.o l c.o.size);clear l)))
 obtain⟨v,a4⟩:=Qe (bookPts B1 B2);have bl: -30<=v/\v<=50:=by rw[<- a4];unfold bookPts;split;omega;split<;>omega
 rw[a4]at H;rw[a4];clear a4;go_cut [42] (λt j=>t=fn (decide (T1≠[])&&decide (T2≠[]))/\j=w4)
 case first=>
  by_cases h1:T1=[]
  .have o:(T1==[])=true:=by simpa using h1
   go_wp2_with fail;go_meet;exact⟨by simp[h1],rfl⟩
  have o:(T1==[])=false:=by simpa using h1
  by_cases h2:T2=[]
  .have I:(T2==[])=true:=by simpa using h2
   go_wp2_with fail;go_meet;exact⟨by simp[h2],rfl⟩
  have I:(T2==[])=false:=by simpa using h2
  go_wp2_with fail;go_meet;exact⟨by simp[h1,h2],rfl⟩
 obtain⟨rfl,rfl⟩:=hcut;obtain⟨d,f⟩:=Qe ((decide (T1≠[])&&decide (T2≠[])));rw[f];have Q:Hid (titlePts T1 T2=if d=true then(if T1=T2 then 30 else -20)else 0):=by unfold Hid titlePts;rw[<- f];cases T1<;>cases T2<;>simp
 clear f;go_upto_if 42 with fail;go_cut [5] (λp j=>p=J U (v+titlePts T1 T2)/\j=wc)
 case first=>
  cases d
  .go_wp2_with fail;go_meet;exact⟨by rw[Q.o];simp,rfl⟩
  by_cases hT:T1=T2
  .have o:(T1==T2)=true:=by simpa using hT
   rw[if_pos rfl,if_pos hT]at Q;clear hT;go_wp2_with fail;go_meet;exact⟨by rw[Q.o],rfl⟩
  have o:(T1==T2)=false:=by simpa using hT
  rw[if_pos rfl,if_neg hT]at Q;clear hT;go_wp2_with fail;go_meet;exact⟨by rw[Q.o];rfl,rfl⟩
 obtain⟨rfl,rfl⟩:=hcut;obtain⟨z,a9⟩:=Qe (v+titlePts T1 T2);have bs: -50<=z/\z<=80:=by
  have: -20<=titlePts T1 T2/\titlePts T1 T2<=30:=by unfold titlePts;split;omega;split<;>omega
  omega
 rw[a9]at H;rw[a9];obtain⟨⟨B,C,D⟩,E,F,G⟩:=A wc k.o;clear a9 bl Q c g
 go_upto_region 16 with(first
  |(go_at_call 150;((with_reducible refine fs (b9.o _ k.o) ?_);rintro e O⟨v3,rfl,K,m⟩;obtain⟨bO,c0,rfl⟩:=aw K;have r:=Z (aD K (ft _));have c:=Z (btr k.o m k.o.size);obtain⟨⟨B,C,D⟩,E,F,G⟩:=A.o O c.o;clear K m))
  |(go_at_call 150;((with_reducible refine fs (bc.o _ c.o) ?_);rintro e w5⟨v4,rfl,L,l⟩;obtain⟨bY,c3,rfl⟩:=aw L;have P:=Z (aD L (ft _));have g:=Z (btr c.o l c.o.size);have r:=Z (ap r.o l);clear L l)))
 go_cut [61] (λt j=>t=fn (decide (0<A1.length)&&decide (0<A2.length))/\j=w5)
 case first=>
  generalize A1.length=q1 at*;generalize A2.length=q2 at*;rcases hD q1 with rfl|v
  .go_wp2_with fail;go_meet;exact⟨rfl,rfl⟩
  have o:(0:Int)<(q1:Int):=by omega
  rcases hD q2 with rfl|z
  .go_wp2_with fail;go_meet;exact⟨by simp,rfl⟩
  have I:(0:Int)<(q2:Int):=by omega
  go_wp2_with fail;go_meet;exact⟨by simp[v,z],rfl⟩
 obtain⟨rfl,rfl⟩:=hcut;obtain⟨d,f⟩:=Qe ((decide (0<A1.length)&&decide (0<A2.length)));rw[f];have q:Hid (authorPts A1 A2=if d=true then(if A1=A2 then 15 else if A1.headD []=A2.headD []then 8 else -15)else 0):=by unfold Hid authorPts;rw[<- f];cases A1<;>cases A2<;>simp
 have ad:Hid (d=true->0<A1.length/\0<A2.length):=λh=>by rw[<- f,Bool.and_eq_true,decide_eq_true_eq,decide_eq_true_eq]at h;exact h
 clear f;go_upto_if 61 with fail;go_cut [5] (λp j=>p=J U (z+authorPts A1 A2)/\Hid (Bw i j))
 case first=>
  have a0:=Z (ri _ _ A1 A2 wc (aM r.o) (aM P.o) (by have:=HL.o;omega));cases d
  .go_wp2_with fail;go_meet;exact⟨by rw[q.o];simp,g.o⟩
  obtain⟨az,aC⟩:=ad rfl;obtain⟨pb,po,pc,bv,_,aT,aS⟩:=db.at (aM r.o) 0 az;injection bv with e1 e2 e3
  subst e1;clear e2 e3;obtain⟨qb,qo,qc,bw,_,b1,b0⟩:=db.at (aM P.o) 0 aC;injection bw with e1 e2 e3
  subst e1;clear e2 e3;have b3:Hid (A1.headD []=A1[0]):=by cases A1 with|nil=>exact absurd az (by simp)|cons=>rfl
  have b4:Hid (A2.headD []=A2[0]):=by cases A2 with|nil=>exact absurd aC (by simp)|cons=>rfl
  rw[if_pos rfl,b3.o,b4.o]at q;have al:Hid (∀W,Bw wc W->W.cell? ⟨pb,po,Y⟩=X (S A1[0])/\W.cell? ⟨qb,qo,Y⟩=X (S A2[0])):=λW hW=>by rw[(aq hW).1 pb _ aT,(aq hW).1 qb _ b1];exact⟨aS,b0⟩
  generalize A1[0]=c1 at*;generalize A2[0]=c2 at*;clear aT b1 aS b0;by_cases hA:A1=A2
  .rw[decide_eq_true hA]at a0;rw[if_pos hA]at q;clear hA;go_wp2_with (go_at_call 151;(refine fs a0.o ?_;rintro e w6⟨rfl,u⟩;have n:=Z (btr g.o u g.o.size);clear u))
   go_meet;exact⟨by rw[q.o],n.o⟩
  rw[decide_eq_false hA]at a0;rw[if_neg hA]at q;clear hA;by_cases hc:c1=c2
  .have o:(c1==c2)=true:=by simpa using hc
   rw[if_pos hc]at q;clear hc;go_upto_region 20 with(go_at_call 151;(refine fs a0.o ?_;rintro e w6⟨rfl,u⟩;have n:=Z (btr g.o u g.o.size);obtain⟨z1,z2⟩:=al.o w6 u;clear u))
   go_region;go_wp2_with fail;go_meet;exact⟨by rw[q.o],n.o.drew⟩
  have o:(c1==c2)=false:=by simpa using hc
  rw[if_neg hc]at q;clear hc;go_upto_region 20 with(go_at_call 151;(refine fs a0.o ?_;rintro e w6⟨rfl,u⟩;have n:=Z (btr g.o u g.o.size);obtain⟨z1,z2⟩:=al.o w6 u;clear u))
  go_region;go_wp2_with fail;go_meet;exact⟨by rw[q.o];rfl,n.o.drew⟩
 obtain⟨rfl,n⟩:=hcut;obtain⟨R,aa⟩:=Qe (z+authorPts A1 A2);have bt: -65<=R/\R<=95:=by
  have: -15<=authorPts A1 A2/\authorPts A1 A2<=15:=by unfold authorPts;split;omega;split;omega;split<;>omega
  omega
 rw[aa]at H;rw[aa];obtain⟨⟨B,C,D⟩,E,F,G⟩:=A wc n.o;clear aa bs q ad c g r P
 go_upto_region 24 with(first
  |(go_at_call 152;((with_reducible refine fs (bd.o _ n.o) ?_);rintro e O⟨rfl,m⟩;have c:=Z (btr n.o m n.o.size);obtain⟨⟨B,C,D⟩,E,F,G⟩:=A.o O c.o;clear m))
  |(go_at_call 152;((with_reducible refine fs (bk.o _ c.o) ?_);rintro e w4⟨rfl,l⟩;have k:=Z (btr c.o l c.o.size);clear l)))
 go_cut [89] (λt j=>t=fn (decide (0<=Y1)&&decide (0<=Y2))/\j=w4)
 case first=>
  by_cases h1:0<=Y1
  .by_cases h2:0<=Y2
   all_goals
    go_wp2_with fail
    go_meet
    exact⟨by simp;omega,rfl⟩
  go_wp2_with fail;go_meet;exact⟨by simp;omega,rfl⟩
 obtain⟨rfl,rfl⟩:=hcut;obtain⟨d,f⟩:=Qe ((decide (0<=Y1)&&decide (0<=Y2)));rw[f];have s:Hid (yearPts Y1 Y2=if d=true then(if Y1=Y2 then 10 else if Y1-Y2=1∨Y2-Y1=1 then 0 else -10)else 0):=by
  unfold Hid yearPts;by_cases h:Y1<0∨Y2<0
  .rw[if_pos h,if_neg (by rw[<- f];simp;omega)]
  have hb:d=true:=by rw[<- f];simp;omega
  rw[if_neg h,hb];rfl
 clear f;go_upto_if 89 with fail;go_cut [5] (λp j=>p=J U (R+yearPts Y1 Y2)/\j=wc)
 case first=>
  cases d
  .go_wp2_with fail;go_meet;exact⟨by rw[s.o];simp,rfl⟩
  rw[if_pos rfl]at s;by_cases he:Y1=Y2
  .have o:(Y1==Y2)=true:=by simpa using he
   have I:¬(1:Int)<Y1-Y2:=by omega
   have g3:¬(1:Int)<Y2-Y1:=by omega
   rw[if_pos he]at s;clear he;go_wp2_with fail;go_meet;exact⟨by rw[s.o],rfl⟩
  have o:(Y1==Y2)=false:=by simpa using he
  rw[if_neg he]at s;by_cases hd:Y1-Y2=1∨Y2-Y1=1
  .have I:¬(1:Int)<Y1-Y2:=by omega
   have g3:¬(1:Int)<Y2-Y1:=by omega
   rw[if_pos hd]at s;clear he hd;go_wp2_with fail;go_meet;exact⟨by rw[s.o];simp,rfl⟩
  rw[if_neg hd]at s;have hg:(1:Int)<Y1-Y2∨(¬(1:Int)<Y1-Y2/\(1:Int)<Y2-Y1):=by omega
  clear he hd;rcases hg with I|⟨I,g3⟩
  all_goals
   go_wp2_with fail
   go_meet
   exact⟨by rw[s.o];rfl,rfl⟩
 obtain⟨rfl,rfl⟩:=hcut;obtain⟨p4,ac⟩:=Qe (R+yearPts Y1 Y2);have c6: -75<=p4/\p4<=105:=by
  have: -10<=yearPts Y1 Y2/\yearPts Y1 Y2<=10:=by unfold yearPts;split;omega;split;omega;split<;>omega
  omega
 rw[ac]at H;rw[ac];obtain⟨⟨B,C,D⟩,E,F,G⟩:=A wc k.o;clear ac bt s c n;by_cases hk:K1=K2
 .subst hk;have o:((K1.toNat:Int)==(K1.toNat:Int))=true:=by simp
  go_wp2_with fail;go_ret;exact⟨aI (by rw[H.o];simp),btr a2.o k.o a2.o.size⟩
 have o:((K1.toNat:Int)==(K2.toNat:Int))=false:=beq_eq_false_iff_ne.2 λh=>hk (UInt8.toNat_inj.1 (Int.ofNat.inj h));rw[if_neg hk]at H;clear hk;go_wp2_with fail;go_ret;exact⟨aI (by rw[H.o];rfl),btr a2.o k.o a2.o.size⟩
theorem AQ(a b:aG)(x y:g9)(w:gO)(h:ah 0 w w x a.fields)(i:ah 0 w w y b.fields)(o:br a.fields)(q:br b.fields):
 hF prog 55 #[eG a x,eG b y] w λe w'=>e=fb (fn (decide (40<=pointsR a b)))/\Bw w w':=by
 obtain⟨t,F,G,z,rfl,c,u,k⟩:=lc a.kind a.level x a.fields w h;obtain⟨d,L,M,A,rfl,f,v,l⟩:=lc b.kind b.level y b.fields t ((i.kept (aW c (fz _))).mono (fz _) c.size);have g:Hid (Bw w d):=btr c f c.size;obtain⟨⟨C,D,E⟩,m⟩:=k d f;obtain⟨⟨H,I,K⟩,n⟩:=l d (fy _ _);have s:=Z (ug a b _ _ d (m.mono (fz _) (by omega)) (n.mono (fz _) (by omega)) o q);unfold eG at*;clear h i o q k l c f m n u v;generalize pointsR a b=p at*;generalize a.fields.length=n1 at*;generalize b.fields.length=n2 at*;go_enter func55,ntmps55;go_wp2_with (go_at_call 102;(refine fs s.o ?_;rintro e B⟨rfl,j⟩;have r:=Z (btr g.o j g.o.size);clear j))
 go_ret;exact⟨rfl,r.o⟩
attribute [local go_sem] Oper.semAt_some
theorem i81:(prog.info? 81).map (λi=>(i.zero,i.size,i.bytes))=X (X (fc Y 0 0),1,24):=by kernel_rfl
theorem rT(z:g9)(a:z.cells= #[z])(n:Nat):(madeCells z.cells (n*1)).toList=gz n z:=by
 apply List.ext_getElem?;intro j;by_cases hj:j<n
 .rw[List.getElem?_replicate,if_pos hj];simp[madeCells,a,hj,Nat.mod_one]
 rw[h7 (by rw[Array.length_toList,size_madeCells];omega),h7 (by rw[List.length_replicate];omega)]
theorem xe(w:gO)(n:Nat)(hn:n<=1000):∃wa,(Instr.makeSlice 108 (n:Int) (n:Int)).run prog w=.ok (fc w n n) wa/\
 wa.ownsRow w 81 1 (fc w n n) n (gz n (fc Y 0 0))/\g4 w w wa/\w.heap.size<wa:=by
 obtain⟨i,e,h,g,d⟩:=info_parts i81;obtain⟨wa,b,a,c⟩:=run_makeSlice_full (P:=prog) w w 108 81 i (fc Y 0 0) 1 underlying108 e h g U U n (by omega) (by rw[d];omega) (by unfold maxLen;omega) (fz _);rw[rT _ rfl]at a;exact⟨wa,b,a,(fy _ w).grown c (fz _) (λj f=>by cases f),(a.lt _ rfl).2⟩
def qg(K:Nat)(W:gO)(v:g9)(r:aG):Prop:=∃(a:Option Addr)(c:Nat)(L:List Bs),v=fc a L.length c/\W.ownsRow (K+1) 9 1 v L.length (L.map λs=>S s)/\(∀y,y∈L↔y∈rawR r.fields)/\L.length<=1000000000001
theorem qg.below{K:Nat}{W b:gO}{v:g9}{r:aG}(h:qg K W v r)(g:g4 W W b):qg K b v r:=by
 obtain⟨a,c,L,d,e,f⟩:=h;exact⟨a,c,L,d,ap e g,f⟩
theorem qg.set{K:Nat}{W:gO}{v:g9}{r:aG}(h:qg K W v r)(i:Nat)(u:g9):qg K (W.setCell ⟨K,i,Y⟩ u) v r:=by
 obtain⟨a,c,L,d,b,e⟩:=h;exact⟨a,c,L,d,aj b λg f=>it _ _ _ _ (by have:=(b.lt g f).1;show g≠K;omega),e⟩
theorem Aw{A B a b:List Bs}(c:∀y,y∈A↔y∈a)(d:∀y,y∈B↔y∈b):A.any B.contains=a.any b.contains:=by
 rw[Bool.eq_iff_iff,List.any_eq_true,List.any_eq_true];simp only[List.contains_iff_mem,c,d]
def goL(l:List aG)(i k:Nat):List (Nat×Nat):=((gt k).filter λj=>decide (i<j)&&gl (l.getD i ⟨0,0,[]⟩) (l.getD j ⟨0,0,[]⟩)).map λj=>(i,j)
theorem BO(l:List aG)(i:Nat):goL l i l=bW l l i:=rfl
theorem xu(l:List aG)(i:Nat):goL l i (i+1)=[]:=by
 unfold goL;rw[List.map_eq_nil_iff,List.filter_eq_nil_iff];intro j a;rw[List.mem_range]at a;simp;omega
theorem zI(l:List aG)(i k:Nat)(h:i<k):goL l i (k+1)=goL l i k++if gl (l.getD i rec0) (l.getD k rec0)=true then[(i,k)]else[]:=by
 unfold goL rec0;rw[List.range_succ,hK,hH];congr 1
 by_cases hm:gl (l.getD i ⟨0,0,[]⟩) (l.getD k ⟨0,0,[]⟩)=true
 .rw[if_pos hm,List.filter_cons_of_pos (by rw[Bool.and_eq_true,decide_eq_true_eq];exact⟨h,hm⟩)];rfl
 rw[if_neg hm,List.map_eq_nil_iff,List.filter_eq_nil_iff];intro j a;rw[hJ]at a;subst a;exactλb=>hm (Bool.and_eq_true_iff.1 b).2
theorem vR(l:List aG)(i k:Nat):(goL l i k).length<=k:=by
 unfold goL;rw[gi];exact gf (g8 _ _) (by simp)
theorem A3(l:List aG)(n i:Nat):((gt i).flatMap (bW l n)).length<=i*n:=by
 induction i with
 |zero=>simp
 |succ i ih=>
  rw[List.range_succ,gn,gy,Nat.succ_mul];have:([i].flatMap (bW l n)).length<=n:=by simp only[List.flatMap_cons,List.flatMap_nil,gP];exact vR l i n
  omega
theorem zh(w:gO)(v:g9)(g:List (aG×g9))(h:jU w v g)(hn:g.length<=1000)(c0:∀p∈g,br p.1.fields):
 hF prog 26 #[v] w λe w'=>∃v':g9,e=fb v'/\w'.ownsRow w 67 2 v' (pairsR (g.map (·.1))).length ((pairsR (g.map (·.1))).flatMap cX)/\g4 w w w':=by
 obtain⟨wa,a0,a8,a3,m⟩:=xe w g hn;have a7:(g.map (·.1)).length=g:=gi _;obtain⟨l,hl⟩:=Qe (g.map (·.1));have cu:Hid (∀i(V:i<g.length),g[i].1=l.getD i rec0):=λi V=>by rw[<- hl,jG V]
 have a4:Hid (∀i,i<g.length->br (l.getD i rec0).fields):=λi V=>by rw[<- hl,jG V];exact c0 _ (gq V)
 rw[hl]at a7 ⊢;have bc:=Z h;obtain⟨av,cv,rfl,_⟩:=h.1;obtain⟨n,aT⟩:=Qe g.length;obtain⟨K,R⟩:=Qe w.heap.size;have cj:=Z aT;rw[aT]at hn a7 a0 a8 a4 ⊢;replace a3:g4 w w wa:=a3;rw[R]at a0 a8 a3 m ⊢;have cg:=Z a7;have HK:=Z R;have ad:Hid (∀W,g4 K w W->∀q,q<n->∃b o x,av=X ⟨b,o,Y⟩/\b<K/\W.cell? ⟨b,o+q*3,Y⟩=X (J fl (l.getD q rec0).kind.toNat)/\W.cell? ⟨b,o+q*3+1,Y⟩=X (J fl (l.getD q rec0).level.toNat)/\W.cell? ⟨b,o+q*3+2,Y⟩=X x/\ah 0 W W x (l.getD q rec0).fields/\∀B,g4 W W B->ah 0 B.heap.size B x (l.getD q rec0).fields):=λW c q hq=>by
  have b1:q<g:=by rw[cj.o];exact hq
  obtain⟨b,o,d8,hv,f,F,H,e2⟩:=bc.get q b1;injection hv with g1 g2 g3
  have f:b<K:=R▸f;have s:=bc.2 _ (gq b1);rw[cu.o q b1]at F H s;have hu:∀B,g4 K w B->ah 0 B.heap.size B g[q].2 (l.getD q rec0).fields:=λB h=>(s.kept (aW h (Nat.le_of_eq R))).mono (fz _) h.size;have b5:∀{i:Nat}(u:g9),w.cell? ⟨b,i,Y⟩=X u->W.cell? ⟨b,i,Y⟩=X u:=λu h=>(hI (a:=⟨b,_,Y⟩) (c.block b f)).trans h;exact⟨b,o,g[q].2,g1,f,b5 _ F,b5 _ H,b5 _ e2,hu W c,λB h=>hu B (btr c h (R▸c.size))⟩
 have cx:=Z a8;have c6:=Z a3;have ch:=Z m;clear h hl a7 aT c0 a8 a3 m R;go_enter func26,ntmps26;go_wp2_with fail;go_loopw [5] (λi wr=>∃q:Nat,q<=n/\i=J U q/\Hid (g4 K w wr)/\Hid (K<wr)/\Hid (∃vs:List g9,vs=n/\wr.ownsRow K 81 1 (fc (X ⟨K,0,Y⟩) n n) n vs/\∀j,j<q->∃u,vs[j]?=X u/\qg K wr u (l.getD j rec0))) (λi _=>n-(intOf i).toNat)
 exact⟨0,ft _,rfl,c6.o,ch.o,_,by simp,cx.o,λj hj=>absurd hj (by omega)⟩;obtain⟨q,hq,rfl,d,N,HV⟩:=hrel;obtain⟨vs,b4,M,a6⟩:=HV.o;by_cases m:q<n
 .obtain⟨b,o,x,rfl,f,F,H,e2,s,_⟩:=ad wr d.o q m;have hc:=M.cellAt q (by omega);have bB:q<vs:=by omega
  rw[gx bB]at hc;have b6:=Z (C4 (l.getD q rec0).kind (l.getD q rec0).level x (l.getD q rec0).fields wr s (a4 q m));have A:=Z M;have cc:=Z a6;have bd:=Z b4;have bb:=Z bB;obtain⟨r,C⟩:=Qe (l.getD q rec0);have HR:=Z C;rw[C]at F H b6 s;obtain⟨xa,xc,hx⟩:=s.shape;subst hx;clear C M a6 b4 s f HV;have i1:(q:Int)<n:=by omega
  go_wp2_with (go_at_call 53;(refine fs b6.o ?_;rintro e w5⟨v5,L,rfl,b0,bw,bv,ao⟩;obtain⟨a5,c5,rfl⟩:=aw b0;have cp:=Z b0;have ci:=Z bw;have cd:=Z bv;have a9:=Z ao;have ac:=Z (ap A.o ao);have da:=ac.o.frozenAt q;have d9:=(ac.o.cellAt q (by have:=bd.o;omega)).trans (gx bb.o);clear b0 bw bv ao))
  go_roundw
  case rel=>
   have d1:qg K w5 (fc a5 L.length c5) (l.getD q rec0):=⟨a5,c5,L,rfl,aD cp.o N.o,by rw[HR.o];exact ci.o,cd.o⟩;refine⟨q+1,m,by go_num,(btr d.o a9.o (ht N.o)).setCell (p:=⟨K,q,Y⟩) (fz _) _,?_,vs.set q (fc a5 L.length c5),by rw[List.length_set];exact bd.o,(ac.o.stored q _).1,λj hj=>?_⟩
   .have:=N.o;have:=a9.o.size;unfold Hid;rw[h9];omega
   by_cases hjq:j=q
   .subst hjq;exact⟨_,List.getElem?_set_self bb.o,d1.set _ _⟩
   obtain⟨u,h1,h2⟩:=cc.o j (by omega);exact⟨u,by rw[List.getElem?_set_ne (λh=>hjq h.symm)];exact h1,(h2.below a9.o).set _ _⟩
  simp[intOf];omega
 have d5:q=n:=by omega
 subst d5;generalize hW3:wr=W3 at*;have b8:Hid (∀W,g4 W3 W3 W->∀j,j<q->∃u,W.cell? ⟨K,j,Y⟩=X u/\qg K W u (l.getD j rec0)):=λW c j hj=>by obtain⟨u,h1,h2⟩:=a6 j hj;exact⟨u,by rw[(aq c).1 K _ N.o,M.cellAt j (by omega)];exact h1,h2.below c⟩
 have b7:=Z d.o;have aa:=Z (ht N.o);have cb:=Z N.o;have cs:=Z (λi=>A3 l q i);have ca:=Z (λi k=>vR l i k);have b9:Hid (l=q):=cg.o;clear a6 M b4 HV d N hW3 m hq;go_wp2_with fail;go_loopw [3,6] (λv i wr=>∃(i':Nat)(t:Option Addr)(z:Nat),i'<=q/\v=.slice t ((gt i').flatMap (bW l q)).length z/\i=J U i'/\Hid (wr.ownsRow W3 67 2 (.slice t ((gt i').flatMap (bW l q)).length z) ((gt i').flatMap (bW l q)).length (((gt i').flatMap (bW l q)).flatMap cX))/\Hid (g4 W3 W3 wr)) (λ_ i _=>q-(intOf i).toNat)
 case atStart=>exact⟨0,Y,0,ft _,rfl,rfl,gQ _ _ _ _,fy _ _⟩
 obtain⟨i,t,z,V,rfl,rfl,A,d⟩:=hrel;by_cases m:i<q;rotate_left
 .have e:(gt i).flatMap (bW l q)=pairsR l:=by unfold pairsR;rw[b9.o,show i=q by omega]
  rw[e]at A;rw[e];go_wp2_with fail;go_ret;exact⟨_,rfl,aD A.o aa.o,btr b7.o d.o aa.o⟩
 have i1:(i:Int)<q:=by omega
 have dd:=cs i;have dc:i*q<=1000*1000:=Nat.mul_le_mul (by omega) hn;have cl:Hid ((gt (i+1)).flatMap (bW l q)=(gt i).flatMap (bW l q)++goL l i q):=by unfold Hid;rw[List.range_succ,gn,<- b9.o];simp[BO]
 have c9:=Z (xu l i);generalize(gt i).flatMap (bW l q)=P at*;go_wp2_with fail;go_loopw [3,7] (λv k wr=>∃(O:Nat)(t:Option Addr)(z:Nat),i<O/\O<=q/\v=.slice t (P++goL l i O).length z/\k=J U O/\Hid (wr.ownsRow W3 67 2 (.slice t (P++goL l i O).length z) (P++goL l i O).length ((P++goL l i O).flatMap cX))/\Hid (g4 W3 W3 wr)) (λ_ k _=>q-(intOf k).toNat)
 case atStart=>
  have e:P++goL l i (i+1)=P:=by rw[c9.o,gP]
  exact⟨i+1,t,z,by omega,m,by rw[e],by go_num,by rw[e];exact A.o,d.o⟩
 obtain⟨k,t,z,d0,hk,rfl,rfl,A,d⟩:=hrel;by_cases hkq:k<q;rotate_left
 .have d2:k=q:=by omega
  subst d2;have e:(gt (i+1)).flatMap (bW l k)=P++goL l i k:=cl.o;go_wp2_with fail;go_roundw;exact⟨i+1,t,z,m,by rw[e],by go_num,by unfold Hid;rw[e];exact A.o,d.o⟩;simp[intOf];omega
 have i2:(k:Int)<q:=by omega
 have cQ:=ca i k;have Q:Hid (P++goL l i (k+1)=(P++goL l i k)++if gl (l.getD i rec0) (l.getD k rec0)=true then[(i,k)]else[]):=by unfold Hid;rw[zI l i k d0,hM]
 have bl:(P++goL l i k).length<=1001000:=by rw[gy];omega
 generalize P++goL l i k=G at*;have cq:=Z bl;have au:g4 K w wr:=btr b7.o d.o aa.o;obtain⟨b,o,x,rfl,cP,F,H,e2,s,ay⟩:=ad wr au i m;obtain⟨b',dk,y,hv,_,f0,f1,f2,hg,az⟩:=ad wr au k hkq;injection hv with hv
 injection hv with g1 g2
 subst g1 g2;obtain⟨u1,bs,a1,c1,L1,rfl,bO,aC,d3⟩:=b8 wr d.o i m;obtain⟨u2,bt,a2,c2,L2,rfl,bY,aS,d4⟩:=b8 wr d.o k hkq;have b2:=a4 i m;have b3:=a4 k hkq;obtain⟨D,C⟩:=Qe (l.getD i rec0);rw[C]at F H s ay aC b2 Q;clear C;obtain⟨E,C⟩:=Qe (l.getD k rec0);rw[C]at f0 f1 hg az aS b3 Q;clear C;obtain⟨xa,xc,rfl⟩:=s.shape;obtain⟨ya,yc,rfl⟩:=hg.shape;obtain⟨mk,a0⟩:=Qe (L1.any L2.contains);obtain⟨ds,ax⟩:=Qe (decide (40<=pointsR D E));have bA:gl D E=(mk&&ds):=by unfold gl;rw[<- a0,<- ax,Aw aC aS]
 rw[bA]at Q;have bk:K<wr:=g6 cb.o d.size
 have HF:Hid (∀W,g4 wr wr W->W.cell? ⟨K,i,Y⟩=X (fc a1 L1.length c1)/\W.cell? ⟨K,k,Y⟩=X (fc a2 L2.length c2)/\W.cell? ⟨b,o+i*3,Y⟩=X (J fl D.kind)/\W.cell? ⟨b,o+i*3+1,Y⟩=X (J fl D.level)/\W.cell? ⟨b,o+i*3+2,Y⟩=X (fc xa D.fields xc)/\
  W.cell? ⟨b,o+k*3,Y⟩=X (J fl E.kind)/\W.cell? ⟨b,o+k*3+1,Y⟩=X (J fl E.level)/\W.cell? ⟨b,o+k*3+2,Y⟩=X (fc ya E.fields yc)):=λW c=>by
  have f:b<wr:=by omega
  rw[(aq c).1 K _ bk,(aq c).1 K _ bk,(aq c).1 b _ f,(aq c).1 b _ f,(aq c).1 b _ f,(aq c).1 b _ f,(aq c).1 b _ f,(aq c).1 b _ f]
  exact⟨bs,bt,F,H,e2,f0,f1,f2⟩
 have c7:Hid (∀W,g4 wr wr W->hF prog 54 #[fc a1 L1.length c1,fc a2 L2.length c2] W λe w'=>e=fb (fn mk)/\g4 wr wr w'):=λW c=>(oS _ _ L1 L2 W (aM (aD (ap bO c) (ft _))) (aM (aD (ap bY c) (ft _))) (by omega) (by omega)).mono (by rintro e w'⟨rfl,h⟩;exact⟨by rw[a0],btr c h c.size⟩);have cy:Hid (∀W,g4 wr wr W->hF prog 55 #[.agg #[J fl D.kind,J fl D.level,fc xa D.fields xc],.agg #[J fl E.kind,J fl E.level,fc ya E.fields yc]] W λe w'=>e=fb (fn ds)/\g4 wr wr w'):=λW c=>(AQ D E _ _ W (ay W c) (az W c) b2 b3).mono (by rintro e w'⟨rfl,h⟩;exact⟨by rw[ax],btr c h c.size⟩);clear F H e2 f0 f1 f2 s hg ay az bs bt bO bY aC aS d3 d4 b2 b3 a0 ax bA cP bl cQ au;have al:g4 wr wr wr.drew:=(fy _ _).drew;go_upto_region 13 with fail;refine Wb wr 999 ?_;refine Qd [0,1,2,3,4,5,6,7] al HF.o ?_;refine call1 8 al c7.o λW1 I=>?_;cases mk with
 |false=>
  refine Qc [9] I ?_;refine Qg [10,11,12,13,14,15,16,17,18] I ?_;refine Qc [19] I ?_;refine dN ?_;go_wp2_with fail;go_roundw
  case rel=>
   have e:P++goL l i (k+1)=G:=by rw[Q.o];simp
   exact⟨k+1,t,z,by omega,by omega,by rw[e],by go_num,by unfold Hid;rw[e];exact ap A.o I,btr d.o I d.o.size⟩
  simp[intOf];omega
 |true=>
  refine Qd [9,10,11,12,13,14,15,16,17] I HF.o ?_;refine call1 18 I cy.o λW2 T=>?_;refine Qc [19] T ?_;refine dN ?_;cases ds with
  |false=>
   go_wp2_with fail;go_roundw
   case rel=>
    have e:P++goL l i (k+1)=G:=by rw[Q.o];simp
    exact⟨k+1,t,z,by omega,by omega,by rw[e],by go_num,by unfold Hid;rw[e];exact ap A.o T,btr d.o T d.o.size⟩
   simp[intOf];omega
  |true=>
   have cm:=Z (ap A.o T);have c3:=Z (btr d.o T d.size);clear al I T;go_wp2_with (at_builtin;refine na [J U i,J U k] cm.o c3.o (fz _) underlying65 i67 ?_ (hn:=by have:=cq.o;omega);intro d6 d7 w6 M f;have cz:=Z M;have c4:=Z f;clear M f)
   go_roundw
   case rel=>
    have e:P++goL l i (k+1)=G++[(i,k)]:=by rw[Q.o];simp
    exact⟨k+1,d6,d7,by omega,by omega,by rw[e];simp,by go_num,by unfold Hid;rw[e,gn,gy];exact cz.o,c4.o⟩
   simp[intOf];omega
attribute [local go_sem] Oper.semAt_some
theorem wQ(d:aB)(a:List (RK×VX))(k:Nat)(h:k<a):restL d (a.take (k+1))=restL d (a.take k)++if inC d (a[k].1,a[k].2.1)=true then[a[k]]else[]:=by
 unfold restL;rw[gb h,hK];congr 1
 by_cases hi:inC d (a[k].1,a[k].2.1)=true
 .rw[if_pos hi,List.filter_cons_of_pos (by exact hi)];rfl
 rw[if_neg hi,List.filter_cons_of_neg (by exact hi)];rfl
theorem mq(d:aB)(a:List (RK×VX)):(restL d a).length<=a:=g8 _ _
theorem yE(F:Nat->Prop)(w:gO)(p:Nat)(v1 v2 v3:g9)(b:List (RK×VX))(d:aB)(h:dM F w p v1 v2 v3 b d):
 hF prog 92 #[.pointer p] w λe w'=>∃v,e=fb v/\w'.ownsRow w 64 6 v (restL d b).length ((restL d b).flatMap verCells)/\Bw w w':=by
 have aS:=h.lx;obtain⟨a1,c1,rfl⟩:=aQ h.vs;obtain⟨a2,c2,rfl⟩:=aQ h.ds;obtain⟨n,hn⟩:=Qe b.length;obtain⟨m,hm⟩:=Qe d.ds.length;have HN:=Z hn;have HM:=Z hm
 have HP:Hid (∀W,Bw w W->W.cell? p=X (fc a1 n c1)/\W.cell? ⟨p,1,Y⟩=X (fc a2 m c2)):=λW j=>
  ⟨(ab ((j.block _ (h.lt p h.fp)).trans h.blk) 0).trans (by rw[hn];rfl),(ab ((j.block _ (h.lt p h.fp)).trans h.blk) 1).trans (by rw[hm];rfl)⟩
 have HV:Hid (∀q(H:q<b.length),∃g,a1=X ⟨g,0,Y⟩/\∀W,Bw w W->∀i u,(verCells b[q])[i]?=X u->W.cell? ⟨g,q*6+i,Y⟩=X u):=λq H=>by
  obtain⟨g,c,hv,t,hc⟩:=bT (enc:=verCells) (λ_=>rfl) h.vs q H;injection hv with e1 e2 e3
  exact⟨g,e1,λW s i u hu=>by rw[(aq s).1 g _ t];exact hc i u hu⟩
 have HS:Hid (∀q(H:q<d.ds.length),∃g,a2=X ⟨g,0,Y⟩/\∀W,Bw w W->W.cell? ⟨g,q*3+2,Y⟩=X (J U d.ds[q].2)):=λq H=>by
  obtain⟨g,c,hv,t,hc⟩:=bT (enc:=dropCells) (λ_=>rfl) h.ds q H;injection hv with e1 e2 e3
  exact⟨g,e1,λW s=>by rw[(aq s).1 g _ t];exact hc 2 _ rfl⟩
 have HD:Hid (∀(k:RK)W,Bw w W->_):=λk W j=>vU F W p _ _ v3 b d (h.below j) k;have ax:Hid (∀k,findK d.ds k=(d.ds[placeK ltRK d.ds k]?).bind λp=>if p.1=k then X p.2 else Y):=λk=>en aY h.ok.ok.ds k;have ay:Hid (∀q(H:q<b.length),∃a c,b[q].2.2=.slice a b[q].2.1.2.fields.length c):=λq H=>by obtain⟨lo,hi,hf,_⟩:=h.fx _ (gq H);exact hf.shape
 have aC:=Z (λq=>gf (mq d (b.take q)) (by rw[ho];exact Nat.min_le_right q _));rw[hn]at aS;clear h hn hm;go_enter func92,ntmps92;go_wp2_with fail;go_loopw [3,4] (λv i wr=>∃(q:Nat)(va:Option Addr)(vc:Nat),q<=n/\v=.slice va (restL d (b.take q)).length vc/\i=J U q/\Hid (wr.ownsRow w 64 6 (.slice va (restL d (b.take q)).length vc) (restL d (b.take q)).length ((restL d (b.take q)).flatMap verCells))/\Hid (Bw w wr)) (λ_ i _=>n-(intOf i).toNat)
 exact⟨0,Y,0,ft _,rfl,rfl,gQ _ _ _ _,fy _ _⟩;obtain⟨q,va,vc,H,rfl,rfl,HO,I⟩:=hrel;obtain⟨p0,p1⟩:=HP wr I.o;by_cases O:q<n;rotate_left
 .have e:b.take q=b:=gd (by rw[HN.o];omega);rw[e]at HO;rw[e];go_wp2_with fail;go_ret;exact⟨_,rfl,HO.o,I.o⟩
 have a4:q<b:=by rw[HN.o];exact O
 have i1:(q:Int)<n:=by omega
 have f:=Z (wQ d b q a4);have aa:=aC q;rw[HN.o]at aa;obtain⟨g,rfl,t⟩:=HV q a4;obtain⟨T,V,hx⟩:=ay q a4;obtain⟨x,au⟩:=Qe (b[q]);rw[au]at f t hx;obtain⟨⟨z,A⟩,⟨C,r⟩,y⟩:=x;dsimp only at f hx;subst hx;have Q:Hid (∀W,Bw w W->(W.cell? ⟨g,q*6,Y⟩=X (J U z)/\W.cell? ⟨g,q*6+1,Y⟩=X (J U A)/\W.cell? ⟨g,q*6+2,Y⟩=X (J U C)/\W.cell? ⟨g,q*6+3,Y⟩=X (J fl r.kind)/\W.cell? ⟨g,q*6+4,Y⟩=X (J fl r.level)/\W.cell? ⟨g,q*6+5,Y⟩=X (fc T r.fields V))/\W.cell? p=X (fc g n c1)/\W.cell? ⟨p,1,Y⟩=X (fc a2 m c2)):=λW s=>⟨⟨t W s 0 _ rfl,t W s 1 _ rfl,t W s 2 _ rfl,t W s 3 _ rfl,t W s 4 _ rfl,t W s 5 _ rfl⟩,HP W s⟩;obtain⟨⟨c0,b1,b2,c3,c4,c5⟩,_⟩:=Q wr I.o;have a0:=Z (HD (z,A) wr I.o);have E:=ax (z,A);unfold recK at a0;have a8:inC d ((z,A),(C,r))=match findK d.ds (z,A)with|some B=>decide (B<=C)|none=>true:=rfl
 obtain⟨o,G⟩:=Qe (findK d.ds (z,A));obtain⟨K,a9⟩:=Qe (placeK ltRK d.ds (z,A));rw[G,a9]at E;rw[G]at a8;rw[G,a9]at a0;rw[a8]at f;have av:Hid (∀B,o=X B->K<m/\∃M,a2=X ⟨M,0,Y⟩/\∀W,Bw w W->W.cell? ⟨M,K*3+2,Y⟩=X (J U B)):=λB aT=>by
  rw[aT]at E;cases hd:d.ds[K]? with
  |none=>rw[hd]at E;cases E
  |some e=>
   rw[hd]at E;obtain⟨O,he⟩:=List.getElem?_eq_some_iff.1 hd;obtain⟨M,h1,h2⟩:=HS K O;rw[he]at h2;have:B=e.2:=by
    simp only[Option.bind_some]at E;split at E
    .injection E
    cases E
   rw[<- this]at h2;exact⟨HM.o▸O,M,h1,h2⟩
 generalize restL d (b.take q)=R at*;have al:=Z aa;clear E a8 G a9 t au a4 aa;rcases o with _|B
 .have f:Hid (restL d (b.take (q+1))=R++[((z,A),(C,r),fc T r.fields V)]):=f.o;go_upto_region 6 with(go_at_call 81;(refine fs a0.o ?_;rintro e D⟨rfl,N⟩;have L:=Z (btr I.o N I.o.size);have a6:=Z (ap HO.o N);clear N))
  have l:Bw D D.drew:=(fy _ _).drew;refine Wb D 999 ?_;refine Qc [0,1,2] l ?_;refine Qg [3,4,5,6,7,8,9,10,11,12,13,14,15,16,17,18,19] l ?_;refine Qc [20] l ?_;refine dN ?_;have a3:=Z (ap a6.o l);have P:=Z (btr L.o l L.size);clear l;generalize D.drew=w6 at*;obtain⟨⟨d0,d1,d2,d3,d4,d5⟩,d6,d7⟩:=Q w6 P.o;go_wp2_with (at_builtin;refine na [J U z,J U A,J U C,J fl r.kind,J fl r.level,fc T r.fields V] a3.o P.o (fz _) underlying30 CX ?_ (hn:=by have:=al.o;omega);intro ac ad w7 G j;have a7:=Z G;have a5:=Z j;clear G j)
  go_roundw;exact⟨q+1,ac,ad,O,by rw[f.o];simp,by go_num,by unfold Hid;rw[f.o,gn,gy];exact a7.o,a5.o⟩;simp[intOf];omega
 obtain⟨b0,M,rfl,ao⟩:=av B rfl;have i2:(K:Int)<m:=by omega
 have az:=Z ao;have f:Hid (restL d (b.take (q+1))=R++if B<=C then[((z,A),(C,r),fc T r.fields V)]else[]):=f.o.trans (by simp);clear b0 ao;go_upto_region 6 with(go_at_call 81;(refine fs a0.o ?_;rintro e D⟨rfl,N⟩;have L:=Z (btr I.o N I.o.size);have a6:=Z (ap HO.o N);clear N))
 have l:Bw D D.drew:=(fy _ _).drew;have hf:∀W,Bw D W->W.cell? p=X (fc g n c1)/\W.cell? ⟨p,1,Y⟩=X (fc M m c2)/\W.cell? ⟨g,q*6+2,Y⟩=X (J U C)/\W.cell? ⟨M,K*3+2,Y⟩=X (J U B):=λW s=>by have j:=btr L.o s L.size;exact⟨(Q W j).2.1,(Q W j).2.2,(Q W j).1.2.2.1,az W j⟩
 refine Wb D 999 ?_;refine Qd [0,1,2,3,4,5,6,7,8,9,10,11,12,13,14,15,16,17,18] l hf ?_;have a3:=Z (ap a6.o l);have P:=Z (btr L.o l L.size);by_cases hle:B<=C
 .have f:Hid (restL d (b.take (q+1))=R++[((z,A),(C,r),fc T r.fields V)]):=f.o.trans (by rw[if_pos hle]);refine Qc [19,20] l ?_;refine dN ?_;clear l hf hle;generalize D.drew=w6 at*;obtain⟨⟨d0,d1,d2,d3,d4,d5⟩,d6,d7⟩:=Q w6 P.o;go_wp2_with (at_builtin;refine na [J U z,J U A,J U C,J fl r.kind,J fl r.level,fc T r.fields V] a3.o P.o (fz _) underlying30 CX ?_ (hn:=by have:=al.o;omega);intro ac ad w7 G j;have a7:=Z G;have a5:=Z j;clear G j)
  go_roundw;exact⟨q+1,ac,ad,O,by rw[f.o];simp,by go_num,by unfold Hid;rw[f.o,gn,gy];exact a7.o,a5.o⟩;simp[intOf];omega
 have f:Hid (restL d (b.take (q+1))=R):=f.o.trans (by rw[if_neg hle,gP]);refine Qc [19,20] l ?_;refine dN ?_;clear l hf hle;generalize D.drew=w6 at*;go_wp2_with fail;go_roundw
 case rel=>exact⟨q+1,va,vc,O,by rw[f.o],by go_num,by unfold Hid;rw[f.o];exact a3.o,P.o⟩
 simp[intOf];omega
attribute [local go_sem] Oper.semAt_some
def keysX(L:List (RK×VX)):VL:=L.map λp=>(p.1,p.2.1)
def atI(L:VL)(k:RK):Int:=match atC L k with
 |some i=>(i:Int)
 |none=> -1
theorem Cc{L:List (RK×VX)}{k:RK}{i:Nat}(a:i<L.length)(b:L[i].1=k)(hn:∀p∈L.take i,p.1≠k):atI (keysX L) k=i:=by
 have:atC (keysX L) k=X i:=by unfold atC keysX;rw[List.findIdx?_eq_some_iff_getElem];refine⟨by simpa using a,by simpa using b,λj c=>?_⟩;have:=hn L[j] (List.mem_take_iff_getElem.2 ⟨j,by omega,rfl⟩);simpa using this
 unfold atI;rw[this]
theorem Ar{L:List (RK×VX)}{k:RK}(hn:∀p∈L,p.1≠k):atI (keysX L) k= -1:=by
 have:atC (keysX L) k=Y:=by unfold atC keysX;rw[List.findIdx?_eq_none_iff];intro x b;obtain⟨p,a,rfl⟩:=List.mem_map.1 b;simpa using hn p a
 unfold atI;rw[this]
theorem Cw(v:g9)(L:List (RK×VX))(k:RK)(w:gO)(h:aL 0 w w v L.length (L.flatMap verCells))(V:L.length<=1000000):
 hF prog 93 #[v,recK k] w λe w'=>e=fb (atI (keysX L) k)/\Bw w w':=by
 obtain⟨va,vc,rfl,h⟩:=h;obtain⟨a,b⟩:=k;obtain⟨w1,C⟩:=Qe (w.alloc (fr #[a,b] 36));have u:Bw w w1:=by rw[<- C];exact(fy _ w).alloc (fz _) _
 have a1:w1.heap.size=w+1:=by rw[<- C];simp
 have t:=gp w (fr #[a,b] 36);rw[C]at t;have O:Hid (∀q(c:q<L.length),∃g o,va=X ⟨g,o,Y⟩/\∀W,Bw w1 W->W.cell? ⟨g,o+q*6,Y⟩=X (J U L[q].1.1)/\W.cell? ⟨g,o+q*6+1,Y⟩=X (J U L[q].1.2)/\W.cell? w=X (J U a)/\W.cell? ⟨w,1,Y⟩=X (J U b)):=λq c=>by obtain⟨g,o,e,_,I,d⟩:=h (by intro e;have:=congrArg List.length e;rw[bR verCells 6 (λ_=>rfl)]at this;simp at this;omega);refine⟨g,o,e,λW l=>?_⟩;have G:=btr u l u.size;have P:=d (q*6+0) _ (lF verCells 6 (λ_=>rfl) L q 0 c (by omega));have Q:=d (q*6+1) _ (lF verCells 6 (λ_=>rfl) L q 1 c (by omega));refine⟨by rw[(aq G).1 g _ I];exact P,by rw[(aq G).1 g _ I,Nat.add_assoc];exact Q,(ab ((l.block _ (by omega)).trans t) 0).trans rfl,(ab ((l.block _ (by omega)).trans t) 1).trans rfl⟩
 have m:=Z u;have D:Hid (∀q(c:q<L.length),L[q].1=(a,b)->(∀p∈L.take q,p.1≠(a,b))->atI (keysX L) (a,b)=q):=λq c T hn=>Cc c T hn;have E:Hid ((∀p∈L,p.1≠(a,b))->atI (keysX L) (a,b)= -1):=λh=>Ar h;obtain⟨r,K⟩:=Qe (atI (keysX L) (a,b));rw[K]at D E ⊢;obtain⟨n,hn⟩:=Qe L.length;have F:=Z hn;rw[hn]at V ⊢;clear h u a1 t K hn;unfold recK;go_enter func93,ntmps93;go_wp2_with fail;go_loopw [5] (λi wr=>∃q:Nat,q<=n/\i=J U q/\Hid (Bw w1 wr)/\Hid (∀p∈L.take q,p.1≠(a,b))) (λi _=>n-(intOf i).toNat)
 exact⟨0,ft _,rfl,fy _ _,by unfold Hid;simp⟩;obtain⟨q,c,rfl,j,s⟩:=hrel;by_cases hlt:q<n;rotate_left
 .rw[gd (by rw[F.o];omega)]at s;go_wp2_with fail;go_ret;exact⟨aI (E s.o).symm,btr m.o j.o m.size⟩
 have z:q<L.length:=by rw[F.o];exact hlt
 have i1:(q:Int)<n:=by omega
 obtain⟨g,o,rfl,d⟩:=O q z;have M:=Z (D q z);have N:Hid (L[q].1≠(a,b)->∀p∈L.take (q+1),p.1≠(a,b)):=λa0 p f=>by
  rw[gb z,List.mem_append,hJ]at f;rcases f with f|f
  .exact s p f
  rw[f];exact a0
 generalize L[q].1=y at*;obtain⟨y1,y2⟩:=y;dsimp only at d;obtain⟨A,B⟩:=Qe (decide (y1=a/\y2=b));have H:Bw wr wr.drew:=(fy _ _).drew;have R:∀W,Bw wr W->_:=λW l=>d W (btr j.o l j.size);clear z d;go_upto_region 4 with fail;refine Wb wr 999 ?_;refine Qd [0,1,2,3,4,5] H R ?_;refine Qh [6] H B ?_;refine dN ?_;cases A with
 |true=> have x:=of_decide_eq_true B;go_wp2_with fail;go_ret;exact⟨aI (M (Prod.ext x.1 x.2) s.o).symm,btr m.o (j.drew) m.size⟩
 |false=> have x:=of_decide_eq_false B;go_wp2_with fail;go_roundw;exact⟨q+1,hlt,by go_num,j.drew,N λh=>x ⟨congrArg Prod.fst h,congrArg Prod.snd h⟩⟩;simp[intOf];omega
attribute [local go_sem] Oper.semAt_some
def mA(z:Nat):g9:=J U (z:Int)
theorem bL{x y z:gO}{r:Option Nat}(h:x.grownBy y r)(k:y.grownBy z r):x.grownBy z r:=
 ⟨k.os.trans h.os,k.tape.trans h.tape,k.output.trans h.output,gf h.size k.size,λi a hn=>(k.block i (g6 a h.size) hn).trans (h.block i a hn)⟩
theorem dT{x y:gO}{r:Option Nat}(h:Bw x y):x.grownBy y r:=⟨h.os,h.tape,h.output,h.size,λi a _=>h.block i a⟩
def nI(l:VL)(set:List Nat)(x y:Nat)(p:PK×(Int×Bool)):Bool:= !p.2.2&&match atC l p.1.1,atC l p.1.2 with
 |some a,X b=>(decide (set.getD a 0=x)&&decide (set.getD b 0=y))||(decide (set.getD a 0=y)&&decide (set.getD b 0=x))
 |_,_=>false
theorem yf(ps:List (PK×(Int×Bool)))(l:VL)(set:List Nat)(x y:Nat):jp ps l set x y=ps.any (nI l set x y):=rfl
theorem o0{l:VL}{k:RK}{i:Nat}(h:atC l k=X i):i<l:=by
 unfold atC at h;exact(List.findIdx?_eq_some_iff_getElem.1 h).1
theorem gw{set:List Nat}{i:Nat}(h:i<set):set.getD i 0=set[i]:=by rw[List.getD_eq_getElem?_getD,gx h];rfl
def fL(x y:Nat)(set:List Nat)(k:Nat):List Nat:=(set.take k).map (λz=>if z=x∨z=y then min x y else z)++set.drop k
theorem Bh(x y:Nat)(set:List Nat):fL x y set set=set.map λz=>if z=x∨z=y then min x y else z:=by
 unfold fL;rw[hO,List.drop_length,gP]
theorem Bg(x y:Nat)(set:List Nat)(k:Nat)(h:k<set):(fL x y set k)[k]?=X set[k]:=by
 unfold fL;rw[hV (by simp;omega),gi,ho,show k-min k set.length=0 by omega,List.getElem?_drop,Nat.add_zero,gx h]
theorem Be(x y:Nat)(set:List Nat)(k:Nat)(h:k<set):fL x y set (k+1)=(fL x y set k).set k (if set[k]=x∨set[k]=y then min x y else set[k]):=by
 unfold fL;rw[h6 _ _ (by simp;omega),gi,ho,show k-min k set.length=0 by omega,hZ h,gb h,hH,iv,hM];rfl
theorem Bf(x y:Nat)(set:List Nat)(k:Nat):(fL x y set k).length=set:=by
 unfold fL;simp;omega
theorem yx(F:Nat->Prop)(w0 w:gO)(p:Nat)(v1 v2 v3 v:g9)(xs L:List (RK×VX))(d:aB)(g a4 n a b:Nat)(set:List Nat)(h:dM F w0 p v1 v2 v3 xs d)(P:Bw w0 w)
 (R:aL 0 g w v L.length (L.flatMap verCells))(hL:L.length=n)(hn:set=n)(hs:w.ownsRow g 3 1 (fc g n a4) n (set.map mA))(ha:a<n)(bt:b<n)(bw:n<=1000000)(aa:∀z∈set,z<n):
 hF prog 94 #[.pointer p,v,fc g n a4,a,b] w λe w'=>e=fb (.tuple #[])/\w'.ownsRow g 3 1 (fc g n a4) n ((dn d.ps (keysX L) set a b).map mA)/\w.grownBy w' (X g):=by
 have az:=(hs.lt g rfl).2;have bk:=h.ok.plen;obtain⟨va,vc,rfl,_⟩:=id R;obtain⟨a3,c3,rfl⟩:=aQ h.ps;obtain⟨m,hm⟩:=Qe d.ps.length;have HM:=Z hm;have HP:Hid (∀W,Bw w W->W.cell? ⟨p,2,Y⟩=X (fc a3 m c3)):=λW f=>by have K:=btr P f P.size;exact(ab ((K.block _ (h.lt p h.fp)).trans h.blk) 2).trans (by rw[hm];rfl)
 have HD:Hid (∀q(H:q<d.ps.length),∃B,a3=X ⟨B,0,Y⟩/\∀W,Bw w W->∀i u,(decCells d.ps[q])[i]?=X u->W.cell? ⟨B,q*6+i,Y⟩=X u):=λq H=>by
  obtain⟨B,c,R,hg,hc⟩:=bT (enc:=decCells) (λ_=>rfl) h.ps q H;injection R with e1 e2 e3
  exact⟨B,e1,λW f i u hu=>by rw[(aq (btr P f P.size)).1 B _ hg];exact hc i u hu⟩
 have al:Hid (∀(k:RK)W,Bw w W->hF prog 93 #[fc va n vc,.agg #[k.1,k.2]] W λe w'=>e=fb (atI (keysX L) k)/\Bw W w'):=λk W f=>by have:=Cw (fc va L.length vc) L k W ((R.kept (λq _ H=>f.block q (by omega))).mono (fz _) (by have:=f.size;omega)) (by omega);rw[hL]at this;exact this
 have a2:Hid (∀W,Bw w W->∀q(H:q<set.length),W.cell? ⟨g,q,Y⟩=X (J U set[q])):=λW f q H=>by rw[(aq f).1 g _ az,hs.cellAt q (by omega),g7,gx H];rfl
 have a1:=Z hn;have HS:=Z hs;have ac:=gw (show a<set by omega);have ad:=gw (show b<set by omega);obtain⟨x,hx⟩:=Qe (set.getD a 0);obtain⟨y,hy⟩:=Qe (set.getD b 0);have ca:=a2.o w (fy _ _) a (by omega);have cb:=a2.o w (fy _ _) b (by omega);rw[<- ac,hx]at ca;rw[<- ad,hy]at cb;have bA:x<n:=by rw[<- hx,ac];exact aa _ (gq _)
 have bB:y<n:=by rw[<- hy,ad];exact aa _ (gq _)
 have G:Hid (dn d.ps (keysX L) set a b=if x=y then set else if d.ps.any (nI (keysX L) set x y)=true then set else set.map λz=>if z=x∨z=y then min x y else z):=by unfold Hid;rw[lR,hx,hy,yf];rfl
 have au:Hid ((keysX L).length=n):=by unfold Hid keysX;rw[gi,hL]
 have ia:(a:Int)<n:=by omega
 have ib:(b:Int)<n:=by omega
 rw[hL];rw[hm]at bk;clear P R hL hn hs aa hx hy ac ad h hm az;by_cases hxy:x=y
 .have i1:((x:Int)==(y:Int))=true:=by rw[hxy];simp
  have G:Hid (dn d.ps (keysX L) set a b=set):=G.trans (if_pos hxy);clear hxy;go_enter func94,ntmps94;go_wp2_with fail;refine hX (results_none rfl _ _ _) rfl ?_;exact⟨rfl,by rw[G.o];exact HS.o,World.grownBy.refl _ _⟩
 have i1:((x:Int)==(y:Int))=false:=by simp;omega
 have G:Hid (dn d.ps (keysX L) set a b=if d.ps.any (nI (keysX L) set x y)=true then set else set.map λz=>if z=x∨z=y then min x y else z):=G.trans (if_neg hxy);clear hxy;go_enter func94,ntmps94;go_wp2_with fail;go_loopw [12] (λi wr=>∃q:Nat,q<=m/\i=J U q/\Hid (Bw w wr)/\Hid ((d.ps.take q).any (nI (keysX L) set x y)=false)) (λi _=>m-(intOf i).toNat)
 case atStart=>exact⟨0,ft _,rfl,fy _ _,rfl⟩
 obtain⟨q,H,rfl,A,HN⟩:=hrel;have p2:=HP wr A.o;by_cases hlt:q<m;rotate_left
 .rw[gd (by rw[HM.o];omega)]at HN;have bb:Hid (dn d.ps (keysX L) set a b=fL x y set set):=G.o.trans (by rw[HN.o,Bh];rfl);have bv:min (x:Int) (y:Int)=((min x y:Nat):Int):=by omega
  have b7:Hid (∀r(h:r<set.length),(fL x y set r)[r]?=X set[r]/\fL x y set (r+1)=(fL x y set r).set r (if set[r]=x∨set[r]=y then min x y else set[r])):=λr h=>⟨Bg x y set r h,Be x y set r h⟩;have b8:Hid (fL x y set 0=set):=by unfold Hid fL;simp
  have bs:=Z (Bf x y set);generalize min x y=mn at*;have b5:=Z (dT (r:=X g) A.o);have b9:=Z (ap HS.o A.o);clear A;go_wp2_with fail;go_loopw [15] (λi wr=>∃r:Nat,r<=n/\i=J U r/\Hid (w.grownBy wr (X g))/\Hid (wr.ownsRow g 3 1 (fc g n a4) n ((fL x y set r).map mA))) (λi _=>n-(intOf i).toNat)
  exact⟨0,ft _,rfl,b5.o,by rw[b8.o];exact b9.o⟩;obtain⟨r,hr,rfl,A,E⟩:=hrel;by_cases hrn:r<n;rotate_left
  .have e:r=set:=by rw[a1.o];omega
   rw[e]at E;clear e;go_wp2_with fail;refine bodyPost_end (results_none rfl _ _ _) rfl ?_;exact⟨rfl,by rw[bb.o];exact E.o,A.o⟩
  have aS:r<set:=by rw[a1.o];exact hrn
  have i5:(r:Int)<n:=by omega
  obtain⟨a9,aC⟩:=b7 r aS;have c0:wr.cell? ⟨g,r,Y⟩=X (J U (set[r]:Nat)):=by rw[E.o.cellAt r (by omega),g7,a9];rfl
  have f0:=E.frozenAt r;have I:=Z aC;have av:=Z a9;generalize set[r]=z at*;clear aS a9 aC;by_cases hz:z=x∨z=y
  .have I:Hid (fL x y set (r+1)=(fL x y set r).set r mn):=I.o.trans (by rw[if_pos hz]);have bl:((z:Int)==(x:Int))=true∨(((z:Int)==(x:Int))=false/\((z:Int)==(y:Int))=true):=by simp;omega
   clear hz;rcases bl with K|⟨K,h2⟩
   all_goals
    go_wp2_with fail
    go_roundw
    case' rel=>exact⟨r+1,hrn,by go_num,bL A.o (E.o.stored r _).2,by unfold Hid;rw[I.o,List.map_set];exact(E.o.stored r _).1⟩
    case' measure=>simp[intOf];omega
  have K:((z:Int)==(x:Int))=false:=by simp;omega
  have h2:((z:Int)==(y:Int))=false:=by simp;omega
  have I:Hid (fL x y set (r+1)=fL x y set r):=by
   refine I.trans ?_;rw[if_neg hz];apply List.ext_getElem?;intro j;rw[List.getElem?_set];split
   .next h=>
    subst h;rw[av.o,if_pos (List.getElem?_eq_some_iff.1 av.o).1]
   rfl
  clear hz;go_wp2_with fail;go_roundw
  case rel=>exact⟨r+1,hrn,by go_num,A.o,by unfold Hid;rw[I.o];exact E.o⟩
  simp[intOf];omega
 have a5:q<d.ps:=by rw[HM.o];exact hlt
 have i2:(q:Int)<m:=by omega
 obtain⟨B,rfl,M⟩:=HD q a5;have HT:Hid ((d.ps.take (q+1)).any (nI (keysX L) set x y)=nI (keysX L) set x y d.ps[q]):=by unfold Hid;rw[gb a5,List.any_append,HN.o];simp
 have b6:Hid (nI (keysX L) set x y d.ps[q]=true->d.ps.any (nI (keysX L) set x y)=true):=λh=>List.any_eq_true.2 ⟨_,gq a5,h⟩;generalize d.ps[q]=dq at*;obtain⟨⟨⟨l,o⟩,s,t⟩,nu,T⟩:=dq
 have HG:Hid (∀W,Bw w W->W.cell? ⟨p,2,Y⟩=X (fc B m c3)/\W.cell? ⟨B,q*6,Y⟩=X (J U l)/\W.cell? ⟨B,q*6+1,Y⟩=X (J U o)/\W.cell? ⟨B,q*6+2,Y⟩=X (J U s)/\W.cell? ⟨B,q*6+3,Y⟩=X (J U t)/\W.cell? ⟨B,q*6+5,Y⟩=X (fn T)):=λW f=>
  ⟨HP W f,M W f 0 _ rfl,M W f 1 _ rfl,M W f 2 _ rfl,M W f 3 _ rfl,M W f 5 _ rfl⟩
 have HA:=Z (al (l,o));have b0:=Z (al (s,t))
 have a0:Hid (nI (keysX L) set x y (((l,o),s,t),nu,T)=(!T&&match atC (keysX L) (l,o),atC (keysX L) (s,t)with
  |some a,X b=>(decide (set.getD a 0=x)&&decide (set.getD b 0=y))||(decide (set.getD a 0=y)&&decide (set.getD b 0=x))
  |_,_=>false)):=rfl
 have bc:(atC (keysX L) (l,o)=Y/\atI (keysX L) (l,o)= -1)∨∃i:Nat,atC (keysX L) (l,o)=X i/\atI (keysX L) (l,o)=i/\i<n:=by
  cases h:atC (keysX L) (l,o)with
  |none=>exact .inl ⟨rfl,by unfold atI;rw[h]⟩
  |some i=>exact .inr ⟨i,rfl,by unfold atI;rw[h],au.o▸o0 h⟩
 have bd:(atC (keysX L) (s,t)=Y/\atI (keysX L) (s,t)= -1)∨∃i:Nat,atC (keysX L) (s,t)=X i/\atI (keysX L) (s,t)=i/\i<n:=by
  cases h:atC (keysX L) (s,t)with
  |none=>exact .inl ⟨rfl,by unfold atI;rw[h]⟩
  |some i=>exact .inr ⟨i,rfl,by unfold atI;rw[h],au.o▸o0 h⟩
 generalize nI (keysX L) set x y (((l,o),s,t),nu,T)=hit at*;generalize atC (keysX L) (l,o)=oa at*;generalize atC (keysX L) (s,t)=ob at*;generalize atI (keysX L) (l,o)=za at*;generalize atI (keysX L) (s,t)=zb at*;obtain⟨_,g0,g1,g2,g3,g5⟩:=HG wr A.o;clear a5 M
 go_upto_region 8 with(first
  |(go_at_call 93;((with_reducible refine fs (HA.o wr A.o) ?_);rintro e w5⟨rfl,ax⟩;have V:=Z (btr A.o ax A.o.size);obtain⟨z2,z0,z1,z3,z4,z5⟩:=HG.o w5 V.o;clear ax))
  |(go_at_call 93;((with_reducible refine fs (b0.o w5 V.o) ?_);rintro e w6⟨rfl,ay⟩;have C:=Z (btr V.o ay V.o.size);obtain⟨y2,y0,y1,y3,y4,y5⟩:=HG.o w6 C.o;clear ay)))
 cases T with
 |true=> have D:Hid (hit=false):=a0.trans (rfl);go_wp2_with fail;go_roundw;exact⟨q+1,hlt,by go_num,C.o,HT.trans D.o⟩;simp[intOf];omega
 |false=>
  rcases bc with⟨rfl,rfl⟩|⟨i,rfl,rfl,hi⟩
  .have D:Hid (hit=false):=a0.o;go_wp2_with fail;go_roundw;exact⟨q+1,hlt,by go_num,C.o,HT.trans D.o⟩;simp[intOf];omega
  have i3:(i:Int)<n:=by omega
  rcases bd with⟨rfl,rfl⟩|⟨j,rfl,rfl,hj⟩
  .have D:Hid (hit=false):=a0.o;go_wp2_with fail;go_roundw;exact⟨q+1,hlt,by go_num,C.o,HT.trans D.o⟩;simp[intOf];omega
  have i4:(j:Int)<n:=by omega
  have a7:i<set:=by rw[a1.o];exact hi
  have a8:j<set:=by rw[a1.o];exact hj
  have ci:=a2 w6 C.o i a7;have cj:=a2 w6 C.o j a8;have a6:hit=((decide (set.getD i 0=x)&&decide (set.getD j 0=y))||(decide (set.getD i 0=y)&&decide (set.getD j 0=x))):=a0.o;rw[gw a7,gw a8]at a6;generalize set[i]=si at*;generalize set[j]=sj at*;clear a7 a8 hi hj;obtain⟨N,K⟩:=Qe (((si:Int)==(x:Int)));obtain⟨b2,h2⟩:=Qe (((sj:Int)==(y:Int)));obtain⟨O,h3⟩:=Qe (((si:Int)==(y:Int)));obtain⟨b4,h4⟩:=Qe (((sj:Int)==(x:Int)));have Q:∀u v:Nat,decide (u=v)=((u:Int)==(v:Int)):=λu v=>by rw[Bool.eq_iff_iff];simp;omega
  have ao:Hid (hit=((N&&b2)||(O&&b4))):=by unfold Hid;rw[a6,Q,Q,Q,Q,K,h2,h3,h4]
  clear a6 Q;have hc:(N=true/\b2=true)∨((N=false∨(N=true/\b2=false))/\((O=true/\b4=true)∨O=false∨(O=true/\b4=false))):=by cases N<;>cases b2<;>cases O<;>cases b4<;>simp
  rcases hc with⟨rfl,rfl⟩|⟨rfl|⟨rfl,rfl⟩,⟨rfl,rfl⟩|rfl|⟨rfl,rfl⟩⟩
  case' inl|inr.inl.inl|inr.inr.inl=> have aT:=Z (b6.o (ao.o.trans (by simp)));go_wp2_with fail;refine hX (results_none rfl _ _ _) rfl ?_;exact⟨rfl,by rw[G.o,if_pos aT.o];exact ap HS.o C.o,dT C.o⟩
  all_goals
   have D:Hid (hit=false):=ao.o.trans (by simp)
   go_wp2_with fail
   go_roundw
   case' rel=>exact⟨q+1,hlt,by go_num,C.o,HT.trans D.o⟩
   case' measure=>simp[intOf];omega
attribute [local go_sem] Oper.semAt_some
theorem cw.all{n:Nat}{set:List Nat}(h:cw n set):∀z∈set,z<n:=λz b=>by
 obtain⟨i,a,rfl⟩:=List.getElem_of_mem b;have:=h.lt (i:=i) (by rw[<- h.len];exact a);rwa[gw a]at this
theorem xf(w:gO)(n:Nat)(hn:n<=1000):∃wa,(Instr.makeSlice 84 (n:Int) (n:Int)).run prog w=.ok (fc w n n) wa/\
 wa.ownsRow w 3 1 (fc w n n) n ((gz n 0).map mA)/\g4 w w wa/\w.heap.size<wa:=by
 obtain⟨i,e,h,g,d⟩:=info_parts i3;obtain⟨wa,b,a,c⟩:=run_makeSlice_full (P:=prog) w w 84 3 i (J U 0) 1 underlying84 e h g U U n (by omega) (by rw[d];omega) (by unfold maxLen;omega) (fz _);rw[rT _ rfl]at a;rw[List.map_replicate];exact⟨wa,b,a,(fy _ w).grown c (fz _) (λj f=>by cases f),(a.lt _ rfl).2⟩
theorem sg{ps:List (PK×(Int×Bool))}{l:VL}{set:List Nat}{n:Nat}(a:l=n)(h:cw n set)(p:PK):cw n (bP ps l set p):=by
 unfold bP;split
 .next h1 h2=>exact h.unite ps l (a▸o0 h1) (a▸o0 h2)
 exact h
theorem wH(ps:List (PK×(Int×Bool)))(L:VL)(a:List (Nat×Nat))(j:Nat)(h:j<a):iG ps L (a.take (j+1))=dn ps L (iG ps L (a.take j)) a[j].1 a[j].2:=by
 unfold iG;rw[gb h,List.foldl_append];rfl
theorem oo{w w':gO}{B e k n G:Nat}{v:g9}{b:List g9}(h:w.ownsRow B e k v n b)(c:w.grownBy w' (X G))(hn:∀g,v.ownBlock=X g->g≠G):w'.ownsRow B e k v n b:=
 aj h λg a=>c.block g (h.lt g a).2 (λe=>hn g a (by injection e))
theorem AN(F:Nat->Prop)(w:gO)(p:Nat)(v1 v2 v3:g9)(D:List (RK×VX))(d:aB)(h:dM F w p v1 v2 v3 D d)(hn:d.vs.length<=1000):
 hF prog 50 #[.pointer p] w λe w'=>∃v s,e=fb (.tuple #[v,s])/\w'.ownsRow w 64 6 v (restL d D).length ((restL d D).flatMap verCells)/\w'.ownsRow w 3 1 s (restL d D).length ((setsC d).map mA)/\g4 w w w':=by
 have bk:=Z (yE F w p v1 v2 v3 D d h);have bt:keysX (restL d D)=thereC d:=iZ h.vx;have a9:(restL d D).length<=1000:=by have:=mq d D;have:=h.len;omega
 have aT:Hid (∀q∈restL d D,br q.2.1.2.fields/\dL (restM F p v1 v2 v3) w q):=λq t=>by have t:=(List.mem_filter.1 t).1;refine⟨(eC (h.ok.right (q.1,q.2.1) ?_)).2.2,h.fx q t⟩;rw[<- h.vx];exact List.mem_map.2 ⟨q,t,rfl⟩
 obtain⟨L,hL⟩:=Qe (restL d D);rw[hL]at bk bt a9 aT ⊢;obtain⟨n,bw⟩:=Qe L.length;have R:=Z bw;rw[bw]at bk a9 ⊢;have b8:=Z bt;have Q:=Z h;obtain⟨a3,c3,rfl⟩:=aQ h.ps;obtain⟨m,hm⟩:=Qe d.ps.length;have HM:=Z hm;have HP:Hid (∀W,g4 w w W->W.cell? ⟨p,2,Y⟩=X (fc a3 m c3)):=λW f=>(ab ((f.block _ (h.lt p h.fp)).trans h.blk) 2).trans (by rw[hm];rfl);have dz:m<=5000:=hm▸h.ok.plen;clear h hn bt hL bw hm;go_enter func50,ntmps50;go_upto_region 2 with(go_at_call 92;(refine fs bk.o ?_;rintro e w1⟨v,rfl,z,B⟩;obtain⟨va,vc,rfl⟩:=aw z;have bb:=Z z;have c1:=Z B;clear z B))
 obtain⟨wa,da,bO,av,bv⟩:=xf w1 n a9;obtain⟨G,hG⟩:=Qe w1.heap.size;have b7:Hid (w<=G):=hG▸c1.size;have a1:Hid (∀W,g4 G w1 W->g4 w w W):=λW f=>btr c1.o f b7.o;have d1:Hid (∀q(t:q<L.length),∃g y yc,va=X ⟨g,0,Y⟩/\g<G/\L[q].2.2=.slice y L[q].2.1.2.fields.length yc/\∀W,g4 G w1 W->W.cell? ⟨g,q*6+3,Y⟩=X (J fl L[q].2.1.2.kind.toNat)/\W.cell? ⟨g,q*6+4,Y⟩=X (J fl L[q].2.1.2.level.toNat)/\W.cell? ⟨g,q*6+5,Y⟩=X L[q].2.2):=λq t=>by
  have z:=bb.o;rw[<- R.o]at z;obtain⟨g,c,hv,hg,l⟩:=bT (enc:=verCells) (λ_=>rfl) (aD z (ft _)) q t;injection hv with e1 e2 e3
  obtain⟨_,lo,hi,hf,_⟩:=aT _ (gq t);obtain⟨y,yc,hy⟩:=hf.shape;rw[hG]at hg;have bs:∀W,g4 G w1 W->∀j,W.cell? ⟨g,j,Y⟩=w1.cell? ⟨g,j,Y⟩:=λW f j=>hI (a:=⟨g,j,Y⟩) (f.block g hg);exact⟨g,y,yc,e1,hg,hy,λW f=>by rw[bs W f,bs W f,bs W f];exact⟨l 3 _ rfl,l 4 _ rfl,l 5 _ rfl⟩⟩
 replace av:g4 w1 w1 wa:=av;rw[hG]at da bO av bv;have d2:=Z bO;have cs:=Z av;have cy:=Z bv;have al:=Z hG;clear bO av bv hG;go_wp2_with fail;go_loopw [6,7] (λv i wr=>∃(q:Nat)(ra:Option Addr)(rc:Nat),q<=n/\v=fc ra q rc/\i=J U q/\Hid (wr.ownsRow (G+1) 62 3 (fc ra q rc) q ((recX (L.take q)).flatMap rdCells))/\Hid (wr.ownsRow G 3 1 (fc (X ⟨G,0,Y⟩) n n) n ((gt q++gz (n-q) 0).map mA))/\Hid (g4 G w1 wr)/\Hid (G<wr)) (λ_ i _=>n-(intOf i).toNat)
 exact⟨0,Y,0,ft _,rfl,rfl,gQ _ _ _ _,by unfold Hid;simpa using d2.o,cs.o,cy.o⟩;obtain⟨q,ra,rc,t,rfl,rfl,HR,o,HB,HZ⟩:=hrel;by_cases hlt:q<n
 .have bB:q<L.length:=by rw[R.o];exact hlt
  have i1:(q:Int)<n:=by omega
  obtain⟨g,y,yc,rfl,dy,hy,l⟩:=d1 q bB;have f0:=o.frozenAt q;have cg:(gt q++gz (n-q) 0)[q]?=X 0:=by rw[hV (by simp),List.length_range,Nat.sub_self,List.getElem?_replicate,if_pos (by omega)]
  have c0:wr.cell? ⟨G,q,Y⟩=X (J U 0):=by rw[o.o.cellAt q (by omega),g7,cg];rfl
  have d6:Hid ((gt q++gz (n-q) 0).set q q=gt (q+1)++gz (n-(q+1)) 0):=by unfold Hid;rw[h6 _ _ (by simp),List.length_range,Nat.sub_self,show n-q=(n-(q+1))+1 by omega,List.replicate_succ,iv,List.range_succ,hM];rfl
  have c9:Hid (recX (L.take (q+1))=recX (L.take q)++[(L[q].2.1.2,L[q].2.2)]):=by unfold Hid recX;rw[gb bB,hH];rfl
  have HC:=Z l;rw[hy]at HC c9;generalize L[q].2.1.2=r at*;clear cg l hy bB;go_upto_region 8 with fail;obtain⟨W6,b0⟩:=Qe (wr.setCell ⟨G,q,Y⟩ (q:Int));have a2:Hid (W6.ownsRow G 3 1 (fc (X ⟨G,0,Y⟩) n n) n ((gt (q+1)++gz (n-(q+1)) 0).map mA)):=by have:=(o.stored q (q:Int)).1;rw[b0]at this;unfold Hid;rw[<- d6.o,List.map_set];exact this
  have ax:=(o.stored q (q:Int)).2;rw[b0]at ax;have d0:=Z (oo HR.o ax λg' a0=>by have:=(HR.o.lt g' a0).1;omega);have ad:Hid (g4 G w1 W6):=HB.o.grown ax (by have:=HB.o.size;have:=al.o;omega) (λk hk=>by injection hk with hk;omega);have cc:Hid (G+1<=W6):=gf HZ.o ax.size;obtain⟨d3,d4,d5⟩:=HC W6 ad.o;rw[b0];clear b0 ax f0 c0;go_wp2_with (at_builtin;refine na [J fl r.kind,J fl r.level,fc y r.fields yc] d0.o (fy _ W6) cc.o underlying59 i62 ?_ (hn:=by omega);intro ds dx w7 z B;have d8:=Z z;have b5:=Z B;clear z B)
  go_roundw
  case rel=> have d9:g4 G w1 w7:=ad.trans (b5.mono (Nat.le_succ _));exact⟨q+1,ds,dx,hlt,rfl,by go_num,by unfold Hid;rw[c9.o,gn];exact d8.o,aj a2.o (λg' a0=>b5.o.block g' (by have:=(a2.o.lt g' a0).1;injection a0 with a0;subst a0;show G<G+1;omega)),d9,g6 cc.o b5.o.size⟩
  simp[intOf];omega
 have dk:n=q:=by omega
 subst dk;have cp:(gt n++gz (n-n) 0)=el d.ps (keysX L) (d.ps.take 0):=by
  have:(keysX L).length=n:=by unfold keysX;rw[gi,R.o]
  rw[Nat.sub_self,List.replicate_zero,gP,List.take_zero];unfold el joinedC;rw[this];rfl
 rw[gd (by rw[R.o];exact fz _)]at HR;rw[cp]at o;clear cp t hlt;generalize hW2:wr=W2 at*;clear hW2;have V:Hid (cw n (el d.ps (keysX L) (d.ps.take 0))):=by
  have:(keysX L).length=n:=by unfold keysX;rw[gi,R.o]
  unfold Hid el joinedC;rw[List.take_zero,this];exact cw.range n
 have aC:Hid ((keysX L).length=n):=by unfold Hid keysX;rw[gi,R.o]
 have cb:Hid (∀W,g4 G w1 W->aL 0 G W (fc va n vc) L.length (L.flatMap verCells)):=λW f=>by have:=(aM (aD bb.o (ft _))).kept (aW f (Nat.le_of_eq al.o));rw[al.o]at this;rw[R.o];exact this
 have bY:Hid (∀(k:RK)W,g4 G w1 W->hF prog 93 #[fc va n vc,.agg #[k.1,k.2]] W λe w'=>e=fb (atI (keysX L) k)/\g4 W W w'):=λk W f=>Cw _ L k W ((cb.o W f).mono (fz _) (by have:=f.size;have:=al.o;omega)) (by rw[R.o];omega)
 have ca:Hid (∀(W:gO)(a b:Nat)(set:List Nat),g4 G w1 W->W.ownsRow G 3 1 (fc (X ⟨G,0,Y⟩) n n) n (set.map mA)->cw n set->a<n->b<n->hF prog 94 #[.pointer p,fc va n vc,fc (X ⟨G,0,Y⟩) n n,a,b] W λe w'=>e=fb (.tuple #[])/\w'.ownsRow G 3 1 (fc (X ⟨G,0,Y⟩) n n) n ((dn d.ps (keysX L) set a b).map mA)/\W.grownBy w' (X G)):=λW a b set f hr hs ha B=>
  yx F w W p v1 v2 _ _ D L d G n n a b set Q.o (a1.o W f) (cb.o W f) R.o hs.len hr ha B (by omega) hs.all
 have HD:Hid (∀q(t:q<d.ps.length),∃A,a3=X ⟨A,0,Y⟩/\∀W,g4 G w1 W->∀i u,(decCells d.ps[q])[i]?=X u->W.cell? ⟨A,q*6+i,Y⟩=X u):=λq t=>by
  obtain⟨A,c,hv,hg,l⟩:=bT (enc:=decCells) (λ_=>rfl) Q.ps q t;injection hv with e1 e2 e3
  exact⟨A,e1,λW f i u hu=>by rw[(aq (a1.o W f)).1 A _ hg];exact l i u hu⟩
 have cx:Hid (∀W,W2.grownBy W (X G)->g4 G w1 W):=λW f=>HB.o.grown f (ht HZ.o) (λk hk=>by injection hk with hk;omega);have ch:=HP W2 (a1 W2 HB.o);go_wp2_with fail;go_loopw [8] (λi wr=>∃q:Nat,q<=m/\i=J U q/\Hid (W2.grownBy wr (X G))/\Hid (wr.ownsRow G 3 1 (fc (X ⟨G,0,Y⟩) n n) n ((el d.ps (keysX L) (d.ps.take q)).map mA))/\Hid (cw n (el d.ps (keysX L) (d.ps.take q)))) (λi _=>m-(intOf i).toNat)
 case atStart=>exact⟨0,ft _,rfl,World.grownBy.refl _ _,o.o,V.o⟩
 obtain⟨q,t,rfl,a5,o,V⟩:=hrel;have a4:=Z (cx wr a5.o);have p2:=HP wr (a1 wr a4.o);by_cases hlt:q<m
 .have aa:q<d.ps:=by rw[HM.o];exact hlt
  have i2:(q:Int)<m:=by omega
  obtain⟨A,rfl,a7⟩:=HD q aa;have T:=Z (oe d.ps (keysX L) q aa);have a6:Hid (cw n (el d.ps (keysX L) (d.ps.take (q+1)))):=by
   unfold Hid;rw[T.o];split
   .exact sg aC.o V.o _
   exact V.o
  generalize d.ps[q]=dq at*;obtain⟨⟨⟨E,H⟩,I,M⟩,nu,jn⟩:=dq
  have HG:Hid (∀W,g4 G w1 W->W.cell? ⟨p,2,Y⟩=X (fc A m c3)/\W.cell? ⟨A,q*6,Y⟩=X (J U E)/\W.cell? ⟨A,q*6+1,Y⟩=X (J U H)/\W.cell? ⟨A,q*6+2,Y⟩=X (J U I)/\W.cell? ⟨A,q*6+3,Y⟩=X (J U M)/\W.cell? ⟨A,q*6+5,Y⟩=X (fn jn)):=λW f=>
   ⟨HP W (a1 W f),a7 W f 0 _ rfl,a7 W f 1 _ rfl,a7 W f 2 _ rfl,a7 W f 3 _ rfl,a7 W f 5 _ rfl⟩
  have HA:=Z (bY (E,H));have cq:=Z (bY (I,M));have dc:(atC (keysX L) (E,H)=Y/\atI (keysX L) (E,H)= -1)∨∃i:Nat,atC (keysX L) (E,H)=X i/\atI (keysX L) (E,H)=i/\i<n:=by
   cases h:atC (keysX L) (E,H)with
   |none=>exact .inl ⟨rfl,by unfold atI;rw[h]⟩
   |some i=>exact .inr ⟨i,rfl,by unfold atI;rw[h],aC.o▸o0 h⟩
  have dd:(atC (keysX L) (I,M)=Y/\atI (keysX L) (I,M)= -1)∨∃i:Nat,atC (keysX L) (I,M)=X i/\atI (keysX L) (I,M)=i/\i<n:=by
   cases h:atC (keysX L) (I,M)with
   |none=>exact .inl ⟨rfl,by unfold atI;rw[h]⟩
   |some i=>exact .inr ⟨i,rfl,by unfold atI;rw[h],aC.o▸o0 h⟩
  have T:Hid (el d.ps (keysX L) (d.ps.take (q+1))=if jn=true then(match atC (keysX L) (E,H),atC (keysX L) (I,M)with
   |some a,X b=>dn d.ps (keysX L) (el d.ps (keysX L) (d.ps.take q)) a b
   |_,_=>el d.ps (keysX L) (d.ps.take q))else el d.ps (keysX L) (d.ps.take q)):=T.o
  generalize el d.ps (keysX L) (d.ps.take q)=S1 at*;generalize atC (keysX L) (E,H)=oa at*;generalize atC (keysX L) (I,M)=ob at*;generalize atI (keysX L) (E,H)=za at*;generalize atI (keysX L) (I,M)=zb at*;obtain⟨_,g0,g1,g2,g3,g5⟩:=HG wr a4.o;clear aa a7 ch;have ao:Hid (G<=wr):=gf (ht HZ.o) a5.size
  go_upto_region 14 with(first
   |(go_at_call 93;((with_reducible refine fs (HA.o wr a4.o) ?_);rintro e w5⟨rfl,au⟩;have ac:=Z (btr a4.o au ao.o);obtain⟨z2,z0,z1,z3,z4,z5⟩:=HG.o w5 ac.o;have bc:=Z (ap o.o au);have cv:=Z (bL a5.o (dT au));have bl:=Z (gf ao.o au.size);clear au))
   |(go_at_call 93;((with_reducible refine fs (cq.o w5 ac.o) ?_);rintro e w6⟨rfl,b2⟩;have ad:=Z (btr ac.o b2 bl.o);obtain⟨y2,y0,y1,y3,y4,y5⟩:=HG.o w6 ad.o;have a2:=Z (ap bc.o b2);have az:=Z (bL cv.o (dT b2));clear b2)))
  cases jn with
  |false=> have Q:Hid (el d.ps (keysX L) (d.ps.take (q+1))=S1):=T.o;go_wp2_with fail;go_roundw;exact⟨q+1,hlt,by go_num,az.o,by unfold Hid;rw[Q.o];exact a2.o,a6.o⟩;simp[intOf];omega
  |true=>
   rcases dc with⟨rfl,rfl⟩|⟨i,rfl,rfl,hi⟩
   .have Q:Hid (el d.ps (keysX L) (d.ps.take (q+1))=S1):=T.o;go_wp2_with fail;go_roundw;exact⟨q+1,hlt,by go_num,az.o,by unfold Hid;rw[Q.o];exact a2.o,a6.o⟩;simp[intOf];omega
   rcases dd with⟨rfl,rfl⟩|⟨j,rfl,rfl,hj⟩
   .have Q:Hid (el d.ps (keysX L) (d.ps.take (q+1))=S1):=T.o;go_wp2_with fail;go_roundw;exact⟨q+1,hlt,by go_num,az.o,by unfold Hid;rw[Q.o];exact a2.o,a6.o⟩;simp[intOf];omega
   have Q:Hid (el d.ps (keysX L) (d.ps.take (q+1))=dn d.ps (keysX L) S1 i j):=T.o;have HU:=Z (ca w6 i j S1 ad.o a2.o V.o hi hj);go_wp2_with (go_at_call 94;(refine fs HU.o ?_;rintro e w7⟨rfl,ay,a8⟩;have bd:=Z ay;have b6:=Z (bL az.o a8);clear ay a8))
   go_roundw
   case rel=>exact⟨q+1,hlt,by go_num,b6.o,by unfold Hid;rw[Q.o];exact bd.o,a6.o⟩
   simp[intOf];omega
 have aa:q=m:=by omega
 rw[aa,gd (by rw[HM.o];exact fz _)]at o V;have cQ:=Z (oo HR.o a5.o λg' a0=>by have:=(HR.o.lt g' a0).1;omega);have b9:(recX L).length=n:=by unfold recX;rw[gi,R.o]
 have ao:Hid (G<=wr):=gf (ht HZ.o) a5.size;have cl:jU wr (fc ra n rc) (recX L):=by refine⟨by rw[b9];exact aM (aD cQ.o (ft _)),λp hp=>?_⟩;obtain⟨x,hx,rfl⟩:=List.mem_map.1 hp;obtain⟨lo,hi,hf,hh,_⟩:=(aT x hx).2;exact(hf.kept ((aW (a1 wr a4.o) hh).mono (ft _) (fz _))).mono (ft _) (gf hh (gf b7.o ao.o))
 have aS:=zh wr _ (recX L) cl (by rw[b9];exact a9) (λp hp=>by obtain⟨x,hx,rfl⟩:=List.mem_map.1 hp;exact(aT x hx).1)
 have ci:(recX L).map (·.1)=(thereC d).map λp=>p.2.2:=by rw[<- b8.o];unfold keysX recX;rw[List.map_map,List.map_map];rfl
 rw[ci]at aS;have cu:=Z (od d);have b3:=ox ((thereC d).map λp=>p.2.2);have bA:= @mw ((thereC d).map λp=>p.2.2);have cm:((thereC d).map λp=>p.2.2).length=n:=by rw[gi,<- b8.o];exact aC.o
 rw[cm]at b3 bA;generalize pairsR ((thereC d).map λp=>p.2.2)=P at*;have aS:=Z aS;have cP:=Z bA;have b3:P.length<=1000000:=gf b3 (Nat.mul_le_mul a9 a9);clear cl ci bA cm aa b9 ch;have cd:Hid (G<wr):=g6 HZ.o a5.size;go_wp2_with (go_at_call 26;(refine fs aS.o ?_;rintro e W5⟨v',rfl,z,B⟩;obtain⟨pa,pc,rfl⟩:=aw z;have c7:=Z z;have bc:=Z (ap o.o B);have ac:=Z (btr a4.o B ao.o);have bl:=Z (g6 cd.o B.size);clear z B))
 have cz:Hid (∀r(hr:r<P.length),∃C,pa=X ⟨C,0,Y⟩/\∀W,W5.grownBy W (X G)->W.cell? ⟨C,r*2,Y⟩=X (J U (P[r].1:Int))/\W.cell? ⟨C,r*2+1,Y⟩=X (J U (P[r].2:Int))):=λr hr=>by
  obtain⟨C,c,hv,hg,l⟩:=bT (enc:=cX) (λ_=>rfl) (aD c7.o (ft _)) r hr;have e0:=(c7.o.lt C (by rw[hv];rfl)).1;injection hv with e1 e2 e3
  have hw:∀W,W5.grownBy W (X G)->∀j,W.cell? ⟨C,j,Y⟩=W5.cell? ⟨C,j,Y⟩:=λW f j=>hI (a:=⟨C,j,Y⟩) (f.block C hg (λe=>by injection e with e;have:=cd.o;omega));exact⟨C,e1,λW f=>by rw[hw W f,hw W f];exact⟨l 0 _ rfl,l 1 _ rfl⟩⟩
 have c5:Hid (∀W,W5.grownBy W (X G)->g4 G w1 W):=λW f=>ac.o.grown f (ht bl.o) (λk hk=>by injection hk with hk;omega);obtain⟨N,hN⟩:=Qe P.length;have c6:=Z hN;rw[hN]at b3;rw[hN];clear hN;go_loopw [12] (λi wr=>∃r:Nat,r<=N/\i=J U r/\Hid (W5.grownBy wr (X G))/\Hid (wr.ownsRow G 3 1 (fc (X ⟨G,0,Y⟩) n n) n ((iG d.ps (keysX L) (P.take r)).map mA))/\Hid (cw n (iG d.ps (keysX L) (P.take r)))) (λi _=>N-(intOf i).toNat)
 case atStart=>exact⟨0,ft _,rfl,World.grownBy.refl _ _,bc.o,V.o⟩
 obtain⟨r,hr,rfl,HG,o,V⟩:=hrel;by_cases hrn:r<N;rotate_left
 .have cj:r=N:=by omega
  rw[cj,gd (by rw[c6.o];exact fz _)]at o;have c2:=Z (c5 wr HG.o);have d7:Hid (iG d.ps (keysX L) P=setsC d):=by unfold Hid;rw[b8.o];exact cu.o
  clear cj;go_wp2_with fail;go_ret2;refine⟨_,_,rfl,ap bb.o (show g4 w1 w1 wr by rw[al.o];exact c2.o),?_,a1.o wr c2.o⟩;rw[<- d7.o];exact aD o.o b7.o
 have b4:r<P.length:=by rw[c6.o];exact hrn
 have i5:(r:Int)<N:=by omega
 obtain⟨C,rfl,l⟩:=cz r b4;obtain⟨hi,hj⟩:=cP _ (gq b4);have T:=Z (wH d.ps (keysX L) P r b4);have a6:Hid (cw n (iG d.ps (keysX L) (P.take (r+1)))):=by unfold Hid;rw[T.o];exact V.o.unite _ _ hi hj
 generalize P[r]=pr at*;obtain⟨i,j⟩:=pr;dsimp only at l hi hj;have b1:wr.grownBy wr.drew (X G):=dT (fy _ _).drew;have hf:∀W,wr.grownBy W (X G)->_:=λW f=>l W (bL HG.o f);have c4:=Z (bL HG.o b1);have HU:=Z (ca wr.drew i j _ (c5 _ c4.o) (ap o.o (fy _ _).drew) V.o hi hj);clear b4 l hi hj;go_upto_region 20 with fail;refine wT (λW=>wr.grownBy W (X G)) 999 ?_;refine Qd [0,1,2,3,4,5,6,7,8,9,10,11,12] b1 hf ?_;refine Dp 13 λK O=>?_;go_simp;go_at_call 94;refine fs HU.o ?_;rintro e w7⟨rfl,ay,a8⟩;refine O _ _ (λ_=>bL b1 a8) ?_;clear O K;refine dN ?_;have bd:=Z ay;have b6:=Z (bL c4.o a8);clear ay a8 b1 hf;go_wp2_with fail;go_roundw
 case rel=>exact⟨r+1,hrn,by go_num,b6.o,by unfold Hid;rw[T.o];exact bd.o,a6.o⟩
 simp[intOf];omega
attribute [local go_sem] Oper.semAt_some
theorem DF{w:gO}{o:Oper}{a:Act}{K:Act->gO->Prop}{Q:Exit->Act->gO->Prop}{s x:Operand}{t e:TypeId}{base size d n m c:Nat}{z v:g9}{k:List g9}(b:List g9)
 (E:w.ownsRow base e size v n k)(R:base<=w)(L:prog.underlying t=X (.slice e))(f:(prog.info? e).map (λi=>(i.zero,i.size,i.bytes))=X (X z,size,d))
 (h:∀(g:Option Addr)(j:Nat)w',w'.ownsRow base e size (fc g (n+m) j) (n+m) (k++b)->w.grownBy w' v.ownBlock->K (a.put o.dst (fc g (n+m) j)) w')
 (I:o.type=t:=by rfl)(D:o.op=.call {callee:=.builtin .append,args:= #[s,x],argTypes:= #[t,t]}:=by rfl)(G:a.eval s=v:=by rfl)(M:a.eval x=fc w m c:=by rfl)(C:b=m*size:=by rfl)
 (q:∀u∈b,u.oneCell'=true:=by simp[Value.oneCell'])(N:z.cells.size=size:=by rfl)(H:0<size:=by decide)(r:0<d:=by decide)(hn:(n+m)*d<=100000000000000:=by omega):o.wp prog a (w.alloc (fr b.toArray e)) K Q:=by
 cases hi:prog.info? e with
 |none=>rw[hi]at f;cases f
 |some i=> rw[hi]at f;simp only[Option.map_some,Option.some.injEq,Prod.mk.injEq]at f;obtain⟨y,A,B⟩:=f;have O:n+m<=(n+m)*d:=Nat.le_mul_of_pos_right _ r;obtain⟨T,w',F,l,p,_⟩:=run_append_own_at (P:=prog) (w:=w.alloc (fr b.toArray e)) base t t e i z size d L hi y A B N H v n k (World.ownsRow.alloc E _) w m c b C (fT _ _ _) q (by unfold maxLen;omega) (by omega) (by rw[World.size_alloc];omega);obtain⟨g,j,rfl⟩:=aw l;exact Dm F (h g j w' l (bL (h8 w _ _) p)) I D G M
theorem lA(F:Nat->Prop)(w:gO)(p:Nat)(v1 v2 v3:g9)(a:List (RK×VX))(d:aB)(h:dM F w p v1 v2 v3 a d)(hn:d.vs.length<=1000):
 hF prog 16 #[.pointer p] w λe w'=>∃v,e=fb v/\w'.ownsRow w 69 4 v (sameC d).length ((sameC d).flatMap pkCells)/\Bw w w':=by
 have a0:=Z (AN F w p v1 v2 v3 a d h hn);have G:keysX (restL d a)=thereC d:=iZ h.vx;have ad:(restL d a).length<=1000:=by have:=mq d a;have:=h.len;omega
 have T:=jy d;have a5:∀q(b:q<(restL d a).length),∃s,∃(o:q<(setsC d).length)(D:s<(restL d a).length),(setsC d)[q]=s/\(sameC d).take (q+1)=(sameC d).take q++[((restL d a)[q].1,(restL d a)[s].1)]:=λq b=>by
  have A:(thereC d).length=(restL d a).length:=by rw[<- G];unfold keysX;rw[gi]
  have o:q<(setsC d).length:=by rw[T.len,A];exact b
  have t:=T.lt (i:=q) (by rw[A];exact b);rw[gw o,A]at t;refine⟨_,o,t,rfl,?_⟩;have a3:∀i(hi:i<(restL d a).length),keyC (thereC d) i=(restL d a)[i].1:=λi hi=>by rw[cD (by rw[A];exact hi)];simp only[<- G,keysX,List.getElem_map]
  have l:(sameC d)[q]?=X ((restL d a)[q].1,(restL d a)[(setsC d)[q]].1):=by unfold sameC;rw[g7,List.getElem?_range (by rw[A];exact b)];simp only[Option.map_some,a3 q b,gw o,a3 _ t]
  rw[List.take_add_one,l];rfl
 have I:(sameC d).length=(restL d a).length:=by rw[eB,<- G];unfold keysX;rw[gi]
 obtain⟨n,R⟩:=Qe ((restL d a).length);have N:=Z R;rw[R]at ad a0 I;generalize restL d a=L at*;have aa:=Z a5;have a9:=Z I;generalize setsC d=st at*;generalize sameC d=sm at*;rw[I];clear h hn G T a5 R I;go_enter func16,ntmps16;go_wp2_with (go_at_call 50;(refine fs a0.o ?_;rintro e w1⟨v,s,rfl,j,t,hb⟩;obtain⟨va,vc,rfl⟩:=aw j;obtain⟨sa,sc,rfl⟩:=aw t;have HO:=Z j;have P:=Z t;have M:=Z hb;clear j t hb))
 have HV:Hid (∀q(b:q<L.length),∃g,va=X ⟨g,0,Y⟩/\∀W,Bw w1 W->∀r(hr:r<L.length),W.cell? ⟨g,r*6,Y⟩=X (J U L[r].1.1)/\W.cell? ⟨g,r*6+1,Y⟩=X (J U L[r].1.2)):=λq b=>by
  have j:=HO.o;rw[<- N.o]at j;obtain⟨g,c,m,l,_⟩:=bT (enc:=verCells) (λ_=>rfl) (aD j (ft _)) q b;injection m with e1 e2 e3
  refine⟨g,e1,λW f r hr=>?_⟩;obtain⟨g',c',ao,ax,hc⟩:=bT (enc:=verCells) (λ_=>rfl) (aD j (ft _)) r hr;injection ao with e4 e5 e6
  rw[e1]at e4;injection e4 with e4
  injection e4 with e4
  subst e4;rw[(aq f).1 g _ l,(aq f).1 g _ l];exact⟨hc 0 _ rfl,hc 1 _ rfl⟩
 have HT:Hid (∀q(b:q<st.length),q<n->∃g,sa=X ⟨g,0,Y⟩/\∀W,Bw w1 W->W.cell? ⟨g,q,Y⟩=X (J U (st[q]:Int))):=λq b a4=>by
  rcases P.2 with⟨h0,_⟩|⟨g,au,av,m,_⟩
  .omega
  have l:=(P.o.lt g (by rw[m];rfl)).2;injection m with e1 e2 e3
  subst e1;refine⟨g,rfl,λW f=>?_⟩;rw[(aq f).1 g _ l,P.o.cellAt q (by omega),g7,gx b];rfl
 go_loopw [5,6] (λv i wr=>∃(q:Nat)(u:Option Addr)(x:Nat),q<=n/\v=fc u q x/\i=J U q/\Hid (wr.ownsRow w1 69 4 (fc u q x) q ((sm.take q).flatMap pkCells))/\Hid (Bw w1 wr)) (λ_ i _=>n-(intOf i).toNat)
 exact⟨0,Y,0,ft _,rfl,rfl,gQ _ _ _ _,fy _ _⟩;obtain⟨q,u,x,b,rfl,rfl,C,B⟩:=hrel;by_cases hlt:q<n;rotate_left
 .have e:sm.take q=sm:=gd (by rw[a9.o];omega);rw[e]at C;have a4:q=n:=by omega
  subst a4;clear e;go_wp2_with fail;go_ret;exact⟨_,rfl,aD C.o M.size,btr M.o B.o M.size⟩
 have H:q<L.length:=by rw[N.o];exact hlt
 have i1:(q:Int)<n:=by omega
 obtain⟨s,o,D,h3,h4⟩:=aa q H;obtain⟨g,rfl,m⟩:=HV q H;obtain⟨gs,rfl,V⟩:=HT q o hlt;rw[h3]at V;have al:s<n:=by rw[<- N.o];exact D
 have i2:(s:Int)<n:=by omega
 have a8:=Z h4;have y:wr.grownBy wr.drew (hQ u q x).ownBlock:=dT (fy _ _).drew;have z:∀W,wr.grownBy W (hQ u q x).ownBlock->Bw w1 W:=λW f=>B.grown f B.size (λk hk=>(C.lt k hk).1);have Q:∀W,wr.grownBy W (hQ u q x).ownBlock->(W.cell? ⟨g,q*6,Y⟩=X (J U L[q].1.1)/\W.cell? ⟨g,q*6+1,Y⟩=X (J U L[q].1.2))/\(W.cell? ⟨g,s*6,Y⟩=X (J U L[s].1.1)/\W.cell? ⟨g,s*6+1,Y⟩=X (J U L[s].1.2))/\W.cell? ⟨gs,q,Y⟩=X (J U (s:Int)):=λW f=>⟨m W (z W f) q H,m W (z W f) s D,V W (z W f)⟩;generalize L[q].1=kq at*;generalize L[s].1=ks at*;obtain⟨a1,a2⟩:=kq;obtain⟨b1,b2⟩:=ks;dsimp only at Q;have a7:=Z z;clear H o D h3 h4 m V al z;go_upto_region 6 with fail;refine wT (λW=>wr.grownBy W (hQ u q x).ownBlock) 999 ?_;refine Qd [0,1,2,3,4,5,6,7,8,9,10,11,12,13,14] y Q ?_;refine Dp 15 λK O=>?_;go_simp;refine O _ _ (λ_=>bL y (h8 _ _ _)) ?_;clear O K;refine Dp 16 λK O=>?_;refine DF [J U a1,J U a2,J U b1,J U b2] (ap C.o (fy _ _).drew) (gf B.o.size y.size) underlying49 i69 ?_ (hn:=by omega);intro xa xc w7 j l;have E:=bL y l;refine O _ _ (λ_=>E) ?_;clear O K;refine Qc [17] E ?_;refine dN ?_;have ac:=Z j;have a6:=Z (a7 _ E);clear j l E y Q;go_wp2_with fail;go_roundw
 case rel=>exact⟨q+1,xa,xc,hlt,rfl,by go_num,by unfold Hid;rw[a8.o,gn];exact ac.o,a6.o⟩
 simp[intOf];omega
attribute [local go_sem] Oper.semAt_some
theorem oC{α β:Type}(P:α->Bool)(f:α->β)(l:List α)(q:Nat)(a:q<l):((l.take (q+1)).filter P).map f=((l.take q).filter P).map f++if P l[q]=true then[f l[q]]else[]:=by
 rw[gb a,hK,hH];congr 1
 by_cases hp:P l[q]=true
 .rw[if_pos hp,List.filter_cons_of_pos hp];rfl
 rw[if_neg hp,List.filter_cons_of_neg hp];rfl
theorem l9{e:gO}{B n:Nat}{f:Option Addr}{k:Nat}{sm:List PK}(hn:sm=n)(h:e.ownsRow B 69 4 (fc f n k) n (sm.flatMap pkCells))(q:Nat)(i:q<sm):
 ∃g,f=X ⟨g,0,Y⟩/\∀W,Bw e W->W.cell? ⟨g,q*4,Y⟩=X (J U sm[q].1.1)/\W.cell? ⟨g,q*4+1,Y⟩=X (J U sm[q].1.2)/\W.cell? ⟨g,q*4+2,Y⟩=X (J U sm[q].2.1)/\W.cell? ⟨g,q*4+3,Y⟩=X (J U sm[q].2.2):=by
 rw[<- hn]at h;obtain⟨g,c,j,d,b⟩:=bT (enc:=pkCells) (λ_=>rfl) (aD h (ft _)) q i;injection j with e1 e2 e3
 exact⟨g,e1,λW a=>by rw[(aq a).1 g _ d,(aq a).1 g _ d,(aq a).1 g _ d,(aq a).1 g _ d];exact⟨b 0 _ rfl,b 1 _ rfl,b 2 _ rfl,b 3 _ rfl⟩⟩
theorem wj(F:Nat->Prop)(w:gO)(p:Nat)(L N O:g9)(Q:List (RK×VX))(d:aB)(h:dM F w p L N O Q d)(hn:d.vs.length<=1000):
 hF prog 19 #[.pointer p] w λe w'=>∃v,e=fb v/\w'.ownsRow w 36 2 v (bQ d).length ((bQ d).flatMap rkCells)/\Bw w w':=by
 have E:=Z (lA F w p L N O Q d h hn);have a4:(sameC d).length<=1000:=by rw[eB];have:=ei (d:=d);omega
 have D:Hid (bQ d=((sameC d).filter (λp:PK=>decide (p.1=p.2))).map (·.1)):=rfl;obtain⟨n,B⟩:=Qe ((sameC d).length);have m:=Z B;rw[B]at a4 E;generalize bQ d=R at*;generalize sameC d=sm at*;clear h hn B;go_enter func19,ntmps19;go_wp2_with (go_at_call 16;(refine fs E.o ?_;rintro e P⟨v,rfl,b,f⟩;obtain⟨va,vc,rfl⟩:=aw b;have HO:=Z b;have t:=Z f;clear b f))
 have HV:=Z (λq K=>l9 (n:=n) (sm:=sm) m.o HO.o q K);go_loopw [3,5] (λv i wr=>∃(q:Nat)(r:Option Addr)(s:Nat),q<=n/\v=.slice r (((sm.take q).filter (λp:PK=>decide (p.1=p.2))).map (·.1)).length s/\i=J U q/\Hid (wr.ownsRow P 36 2 (.slice r (((sm.take q).filter (λp:PK=>decide (p.1=p.2))).map (·.1)).length s) (((sm.take q).filter (λp:PK=>decide (p.1=p.2))).map (·.1)).length ((((sm.take q).filter (λp:PK=>decide (p.1=p.2))).map (·.1)).flatMap rkCells))/\Hid (Bw P wr)) (λ_ i _=>n-(intOf i).toNat)
 exact⟨0,Y,0,ft _,rfl,rfl,gQ _ _ _ _,fy _ _⟩;obtain⟨q,r,s,K,rfl,rfl,x,c⟩:=hrel;by_cases hlt:q<n;rotate_left
 .have e:sm.take q=sm:=gd (by rw[m.o];omega);rw[e,<- D.o]at x;rw[e,<- D.o];clear e;go_wp2_with fail;go_ret;exact⟨_,rfl,aD x.o t.size,btr t.o c.o t.size⟩
 have C:q<sm:=by rw[m.o];exact hlt
 have i1:(q:Int)<n:=by omega
 obtain⟨g,rfl,o⟩:=HV q C;have I:=g8 (λp:PK=>decide (p.1=p.2)) (sm.take q);rw[ho,m.o]at I;have a0:Hid ((((sm.take q).filter (λp:PK=>decide (p.1=p.2))).map (·.1)).length<=1000):=by unfold Hid;rw[gi];omega
 have a:=Z (oC (λp:PK=>decide (p.1=p.2)) (·.1) sm q C);generalize((sm.take q).filter (λp:PK=>decide (p.1=p.2))).map (·.1)=M at*;generalize sm[q]=sq at*;obtain⟨⟨y,z⟩,b1,b2⟩:=sq;dsimp only at o a;have V:=Z o;obtain⟨A,l⟩:=Qe (decide (y=b1/\z=b2));have j:Bw wr wr.drew:=(fy _ _).drew;have u:=Z (btr c.o j c.size);have G:=Z (ap x.o j);have H:∀W,Bw wr W->_:=λW hW=>o W (btr c.o hW c.size);clear C I o;go_upto_region 6 with fail;refine Wb wr 999 ?_;refine Qd [0,1,2,3,4,5,6,7,8,9] j H ?_;refine Qh [10] j l ?_;refine dN ?_;clear j H;generalize wr.drew=w5 at*;cases A with
 |true=>
  have k:=of_decide_eq_true l;have a:Hid (((sm.take (q+1)).filter (λp:PK=>decide (p.1=p.2))).map (·.1)=M++[(y,z)]):=a.o.trans (by rw[if_pos (by simpa[Prod.ext_iff]using k)]);obtain⟨d0,d1,_⟩:=V w5 u.o;clear k l;go_wp2_with (at_builtin;refine na [J U y,J U z] G.o u.o (fz _) underlying52 i36 ?_ (hn:=by have:=a0.o;omega);intro a5 a6 w7 b f;have a3:=Z b;have T:=Z f;clear b f)
  go_roundw;exact⟨q+1,a5,a6,hlt,by rw[a.o];simp,by go_num,by unfold Hid;rw[a.o,gn,gy];exact a3.o,T.o⟩;simp[intOf];omega
 |false=> have k:=of_decide_eq_false l;have a:Hid (((sm.take (q+1)).filter (λp:PK=>decide (p.1=p.2))).map (·.1)=M):=a.o.trans (by rw[if_neg (by simpa[Prod.ext_iff]using k),gP]);clear k l;go_wp2_with fail;go_roundw;exact⟨q+1,r,s,hlt,by rw[a.o],by go_num,by unfold Hid;rw[a.o];exact G.o,u.o⟩;simp[intOf];omega
theorem uq(F:Nat->Prop)(w:gO)(p:Nat)(v1 v2 v3:g9)(xs:List (RK×VX))(d:aB)(h:dM F w p v1 v2 v3 xs d)(hn:d.vs.length<=1000)(k:RK):
 hF prog 23 #[.pointer p,recK k] w λe w'=>∃v,e=fb v/\w'.ownsRow w 36 2 v (membersC d k).length ((membersC d k).flatMap rkCells)/\Bw w w':=by
 obtain⟨a,b⟩:=k;obtain⟨w1,K⟩:=Qe (w.alloc (fr #[a,b] 36));have G:Bw w w1:=by rw[<- K];exact(fy _ w).alloc (fz _) _
 have a8:w1.heap.size=w+1:=by rw[<- K];simp
 have x:=gp w (fr #[a,b] 36);rw[K]at x;have HK:Hid (∀W,Bw w1 W->W.cell? w=X (J U a)/\W.cell? ⟨w,1,Y⟩=X (J U b)):=λW j=>⟨(ab ((j.block _ (by omega)).trans x) 0).trans rfl,(ab ((j.block _ (by omega)).trans x) 1).trans rfl⟩;have C:=Z G;have O:=Z (lA F w1 p v1 v2 v3 xs d (h.below G) hn);have a7:(sameC d).length<=1000:=by rw[eB];have:=ei (d:=d);omega
 have N:Hid (membersC d (a,b)=((sameC d).filter (λp:PK=>decide (p.2=(a,b)))).map (·.1)):=rfl;obtain⟨n,H⟩:=Qe ((sameC d).length);have u:=Z H;rw[H]at a7 O;generalize membersC d (a,b)=R at*;generalize sameC d=sm at*;clear h hn H G a8 x;unfold recK;go_enter func23,ntmps23;go_wp2_with (go_at_call 16;(refine fs O.o ?_;rintro e L⟨v,rfl,m,l⟩;obtain⟨va,vc,rfl⟩:=aw m;have HO:=Z m;have o:=Z l;clear m l))
 have a4:Hid (∀W,Bw L W->Bw w1 W):=λW j=>btr o.o j o.size;have HV:=Z (λq hq=>l9 (n:=n) (sm:=sm) u.o HO.o q hq);go_loopw [5,7] (λv i wr=>∃(q:Nat)(z:Option Addr)(A:Nat),q<=n/\v=.slice z (((sm.take q).filter (λp:PK=>decide (p.2=(a,b)))).map (·.1)).length A/\i=J U q/\Hid (wr.ownsRow L 36 2 (.slice z (((sm.take q).filter (λp:PK=>decide (p.2=(a,b)))).map (·.1)).length A) (((sm.take q).filter (λp:PK=>decide (p.2=(a,b)))).map (·.1)).length ((((sm.take q).filter (λp:PK=>decide (p.2=(a,b)))).map (·.1)).flatMap rkCells))/\Hid (Bw L wr)) (λ_ i _=>n-(intOf i).toNat)
 exact⟨0,Y,0,ft _,rfl,rfl,gQ _ _ _ _,fy _ _⟩;obtain⟨q,z,A,hq,rfl,rfl,D,f⟩:=hrel;by_cases hlt:q<n;rotate_left
 .have e:sm.take q=sm:=gd (by rw[u.o];omega);rw[e,<- N.o]at D;rw[e,<- N.o];clear e;go_wp2_with fail;go_ret;have l:=btr C.o (btr o.o f.o o.size) C.size;exact⟨_,rfl,aD D.o (gf C.size o.size),l⟩
 have I:q<sm:=by rw[u.o];exact hlt
 have i1:(q:Int)<n:=by omega
 obtain⟨g,rfl,y⟩:=HV q I;have a0:=g8 (λp:PK=>decide (p.2=(a,b))) (sm.take q);rw[ho,u.o]at a0;have a5:Hid ((((sm.take q).filter (λp:PK=>decide (p.2=(a,b)))).map (·.1)).length<=1000):=by unfold Hid;rw[gi];omega
 have c:=Z (oC (λp:PK=>decide (p.2=(a,b))) (·.1) sm q I);generalize((sm.take q).filter (λp:PK=>decide (p.2=(a,b)))).map (·.1)=M at*;generalize sm[q]=sq at*;obtain⟨⟨Q,T⟩,b1,b2⟩:=sq;dsimp only at y c;have HC:=Z y;obtain⟨E,t⟩:=Qe (decide (b1=a/\b2=b));have r:Bw wr wr.drew:=(fy _ _).drew;have B:=Z (btr f.o r f.size);have P:=Z (ap D.o r);have V:∀W,Bw wr W->_:=λW j=>And.intro (y W (btr f.o j f.size)) (HK W (a4 W (btr f.o j f.size)));clear I a0 y;go_upto_region 6 with fail;refine Wb wr 999 ?_;refine Qd [0,1,2,3,4,5] r V ?_;refine Qh [6] r t ?_;refine dN ?_;clear r V;generalize wr.drew=w5 at*;cases E with
 |true=>
  have s:=of_decide_eq_true t;have c:Hid (((sm.take (q+1)).filter (λp:PK=>decide (p.2=(a,b)))).map (·.1)=M++[(Q,T)]):=c.o.trans (by rw[if_pos (by simpa[Prod.ext_iff]using s)]);obtain⟨d0,d1,_⟩:=HC w5 B.o;clear s t;go_wp2_with (at_builtin;refine na [J U Q,J U T] P.o B.o (fz _) underlying52 i36 ?_ (hn:=by have:=a5.o;omega);intro a9 aa w7 m l;have a6:=Z m;have a3:=Z l;clear m l)
  go_roundw;exact⟨q+1,a9,aa,hlt,by rw[c.o];simp,by go_num,by unfold Hid;rw[c.o,gn,gy];exact a6.o,a3.o⟩;simp[intOf];omega
 |false=> have s:=of_decide_eq_false t;have c:Hid (((sm.take (q+1)).filter (λp:PK=>decide (p.2=(a,b)))).map (·.1)=M):=c.o.trans (by rw[if_neg (by simpa[Prod.ext_iff]using s),gP]);clear s t;go_wp2_with fail;go_roundw;exact⟨q+1,z,A,hlt,by rw[c.o],by go_num,by unfold Hid;rw[c.o];exact P.o,B.o⟩;simp[intOf];omega
attribute [local go_sem] Oper.semAt_some
theorem xD{sm:List PK}{k:RK}{q:Nat}(c:q<sm)(a:sm[q].1=k)(hn:∀p∈sm.take q,p.1≠k):findK sm k=X sm[q].2:=by
 unfold findK;have:sm=sm.take q++sm[q]::sm.drop (q+1):=by rw[<- hZ c,List.take_append_drop]
 conv=>lhs;rw[this]
 rw[List.find?_append,List.find?_eq_none.2 (λp b=>by simpa using hn p b),Option.none_or,List.find?_cons_of_pos (by simpa using a)];rfl
theorem uK{sm:List PK}{k:RK}(hn:∀p∈sm,p.1≠k):findK sm k=Y:=by
 unfold findK;rw[List.find?_eq_none.2 (λp a=>by simpa using hn p a)];rfl
theorem yC(F:Nat->Prop)(w:gO)(p:Nat)(v1 v2 v3:g9)(xs:List (RK×VX))(d:aB)(h:dM F w p v1 v2 v3 xs d)(hn:d.vs.length<=1000)(k:RK):
 hF prog 21 #[.pointer p,recK k] w λe w'=>e=fb (.tuple #[recK ((titleC d k).getD (0,0)),fn (titleC d k).isSome])/\Bw w w':=by
 obtain⟨a,b⟩:=k;obtain⟨l,D⟩:=Qe ((w.alloc (fr #[a,b] 36)).alloc (fr #[J U 0,J U 0] 36));have M:Bw w l:=by rw[<- D];exact((fy _ w).alloc (fz _) _).alloc (by simp) _
 have L:l.heap[w.heap.size]?=X (fr #[a,b] 36 (0,0)):=by rw[<- D,Below.heap_alloc _ _ _ (by simp)];exact gp w _
 have hB:l.heap[w.heap.size+1]?=X (fr #[J U 0,J U 0] 36 (0,0)):=by rw[<- D];have:=gp (w.alloc (fr #[a,b] 36)) (fr #[J U 0,J U 0] 36);rwa[World.size_alloc]at this
 have a0:l.heap.size=w+2:=by rw[<- D];simp
 have y:Hid (∀W,Bw l W->W.cell? w=X (J U a)/\W.cell? ⟨w,1,Y⟩=X (J U b)/\W.heap[w.heap.size+1]?=X (fr #[J U 0,J U 0] 36 (0,0))):=λW j=>
  ⟨(ab ((j.block _ (by omega)).trans L) 0).trans rfl,(ab ((j.block _ (by omega)).trans L) 1).trans rfl,(j.block _ (by omega)).trans hB⟩
 have x:=Z M;have Q:=Z (lA F l p v1 v2 v3 xs d (h.below M) hn);have a6:(sameC d).length<=1000:=by rw[eB];have:=ei (d:=d);omega
 have a3:Hid (∀q(t:q<(sameC d).length),(sameC d)[q].1=(a,b)->(∀p∈(sameC d).take q,p.1≠(a,b))->titleC d (a,b)=X (sameC d)[q].2):=λq t h1 h2=>xD t h1 h2;have a4:Hid ((∀p∈sameC d,p.1≠(a,b))->titleC d (a,b)=Y):=λh=>uK h;obtain⟨n,N⟩:=Qe ((sameC d).length);have G:=Z N;rw[N]at a6 Q;generalize titleC d (a,b)=R at*;generalize sameC d=sm at*;have a7:=Z a0;clear h hn N M L hB a0;unfold recK;go_enter func21,ntmps21;go_wp2_with (go_at_call 16;(refine fs Q.o ?_;rintro e w3⟨v,rfl,O,hb⟩;obtain⟨va,vc,rfl⟩:=aw O;have HO:=Z O;have P:=Z hb;clear O hb))
 have HV:=Z (λq t=>l9 (n:=n) (sm:=sm) G.o HO.o q t);have m:Hid (∀W,Bw w3 W->Bw l W):=λW j=>btr P.o j P.size;go_loopw [7] (λi wr=>∃q:Nat,q<=n/\i=J U q/\Hid (Bw w3 wr)/\Hid (∀p∈sm.take q,p.1≠(a,b))) (λi _=>n-(intOf i).toNat)
 exact⟨0,ft _,rfl,fy _ _,by unfold Hid;simp⟩;obtain⟨q,t,rfl,f,z⟩:=hrel;by_cases hlt:q<n;rotate_left
 .have e:sm.take q=sm:=gd (by rw[G.o];omega);rw[e]at z;have H:=Z (a4 z.o);have c:=(y wr (m wr f.o)).2.2;have z0:=ae c 0;have z1:=ae c 1;have y0:wr.cell? ⟨w.heap.size+1,0,Y⟩=X (J U 0):=(ab c 0).trans rfl;have y1:wr.cell? ⟨w.heap.size+1,1,Y⟩=X (J U 0):=(ab c 1).trans rfl;have E:Hid (Bw w wr):=btr x.o (m wr f.o) x.size;clear e c;go_wp2_with fail;refine hX (v:=.tuple #[.agg #[J U 0,J U 0],fn false]) (by rw[bm rfl];go_simp) rfl ?_;rw[H.o];exact⟨rfl,(E.o.setCell (p:=⟨w.heap.size+1,0,Y⟩) (by simp) _).setCell (p:=⟨w.heap.size+1,1,Y⟩) (by simp) _⟩
 have C:q<sm:=by rw[G.o];exact hlt
 have i1:(q:Int)<n:=by omega
 obtain⟨g,rfl,B⟩:=HV q C;have HI:=Z (a3 q C);have I:Hid (sm[q].1≠(a,b)->∀p∈sm.take (q+1),p.1≠(a,b)):=λa5 p r=>by
  rw[gb C,List.mem_append,hJ]at r;rcases r with r|r
  .exact z p r
  rw[r];exact a5
 generalize sm[q]=sq at*;obtain⟨⟨a1,a2⟩,T,V⟩:=sq;dsimp only at B;have HC:=Z B;obtain⟨K,s⟩:=Qe (decide (a1=a/\a2=b));have A:Bw wr wr.drew:=(fy _ _).drew;have u:=Z (btr f.o A f.size);have hf:∀W,Bw wr W->_:=λW j=>And.intro (B W (btr f.o j f.size)) (And.intro (y W (m W (btr f.o j f.size))).1 (y W (m W (btr f.o j f.size))).2.1);clear C B;go_upto_region 5 with fail;refine Wb wr 999 ?_;refine Qd [0,1,2,3,4,5] A hf ?_;refine Qh [6] A s ?_;refine dN ?_;clear A hf;generalize wr.drew=w5 at*;cases K with
 |true=> have o:=of_decide_eq_true s;have H:Hid (R=X (T,V)):=HI (Prod.ext o.1 o.2) z.o;obtain⟨_,_,d2,d3⟩:=HC w5 u.o;have c:=(y w5 (m w5 u.o)).2.2;have z0:=ae c 0;have z1:=ae c 1;have y0:w5.cell? ⟨w.heap.size+1,0,Y⟩=X (J U 0):=(ab c 0).trans rfl;have y1:w5.cell? ⟨w.heap.size+1,1,Y⟩=X (J U 0):=(ab c 1).trans rfl;have E:Hid (Bw w w5):=btr x.o (m w5 u.o) x.size;clear o s c;go_wp2_with fail;refine hX (v:=.tuple #[.agg #[T,V],fn true]) (by rw[bm rfl];go_simp) rfl ?_;rw[H.o];exact⟨rfl,(E.o.setCell (p:=⟨w.heap.size+1,0,Y⟩) (by simp) _).setCell (p:=⟨w.heap.size+1,1,Y⟩) (by simp) _⟩
 |false=> have o:=of_decide_eq_false s;have I:=Z (I λh=>o ⟨congrArg Prod.fst h,congrArg Prod.snd h⟩);clear o s;go_wp2_with fail;go_roundw;exact⟨q+1,hlt,by go_num,u.o,I.o⟩;simp[intOf];omega
def gX(c p:Nat):Obj:=fr #[.pointer c,.pointer p] 27 (0,0)
structure TS(w:gO)(T c p:Nat)(d:aB)(FC FM:Nat->Prop)(W:gO):Prop where
 pr:bN FC FM W c p d
 lo:∀q,FC q∨FM q->w<=q/\q≠T
 tb:W.heap[T]?=some (gX c p)
 bw:Bw w W
theorem TS.below{w W f:gO}{T c p:Nat}{d:aB}{b e:Nat->Prop}(h:TS w T c p d b e W)(a:Bw W f):TS w T c p d b e f:=
 ⟨h.pr.below a,h.lo,(a.block T (af h.tb)).trans h.tb,btr h.bw a h.bw.size⟩
theorem TS.cat{w W g:gO}{T c p:Nat}{d:aB}{j k f:Nat->Prop}(h:TS w T c p d j k W)(m:bG f g c d)(e:ai j W f g):TS w T c p d f k g:=by
 refine⟨⟨m,bN.one h.pr e,λq a b=>?_⟩,λq i=>?_,(e.block T (af h.tb) λn=>(h.lo T (.inl n)).2 rfl).trans h.tb,h.bw.trans (e.below (λq i=>(h.lo q (.inl i)).1) h.bw.size).1⟩
 .rcases e.new q a with l|l
  .exact h.pr.dis q l b
  have:=h.pr.mod.lt q b;omega
 rcases i with a|a
 .rcases e.new q a with b|b
  .exact h.lo q (.inl b)
  have:=af h.tb;have:=h.bw.size;omega
 exact h.lo q (.inr a)
theorem TS.act{w W e:gO}{T c p:Nat}{d l:aB}{i j a b:Nat->Prop}(h:TS w T c p d i j W)(n:bN a b e c p l)(f:ai (λk=>i k∨j k) W (λk=>a k∨b k) e):TS w T c p l a b e:=by
 refine⟨n,λq g=>?_,(f.block T (af h.tb) λo=>(h.lo T o).2 rfl).trans h.tb,h.bw.trans (f.below (λq g=>(h.lo q g).1) h.bw.size).1⟩;rcases f.new q g with m|m
 .exact h.lo q m
 have:=af h.tb;have:=h.bw.size;omega
theorem TS.own{w W f:gO}{T c p:Nat}{d:aB}{a h e:Nat->Prop}(_:TS w T c p d a h W)(g:ai a W e f){q:Nat}{o:Obj}(b:W.heap[q]?=X o)(hn:¬a q):f.heap[q]?=X o/\¬e q:=
 ⟨(g.block q (af b) hn).trans b,g.not (af b) hn⟩
theorem TS.fresh{w W:gO}{T c p:Nat}{d:aB}{a b:Nat->Prop}(h:TS w T c p d a b W){q:Nat}(f:W<=q):¬a q:=λe=>by
 have:=h.pr.cat.lt q e;omega
theorem yS{a:Nat->Prop}{W:gO}{p:Nat}{d:aB}(h:bX a W p d)(hn:d.vs.length<=1000):
 hF prog 16 #[.pointer p] W λe w'=>∃v,e=fb v/\w'.ownsRow W 69 4 v (sameC d).length ((sameC d).flatMap pkCells)/\Bw W w':=by
 obtain⟨b,c,f,g,h⟩:=h;exact lA a W p b c f g d h hn
theorem yB{a:Nat->Prop}{W:gO}{p:Nat}{d:aB}(h:bX a W p d)(hn:d.vs.length<=1000):
 hF prog 19 #[.pointer p] W λe w'=>∃v,e=fb v/\w'.ownsRow W 36 2 v (bQ d).length ((bQ d).flatMap rkCells)/\Bw W w':=by
 obtain⟨b,c,f,g,h⟩:=h;exact wj a W p b c f g d h hn
theorem wY{a:Nat->Prop}{W:gO}{p:Nat}{d:aB}(h:bX a W p d)(hn:d.vs.length<=1000)(k:RK):
 hF prog 23 #[.pointer p,recK k] W λe w'=>∃v,e=fb v/\w'.ownsRow W 36 2 v (membersC d k).length ((membersC d k).flatMap rkCells)/\Bw W w':=by
 obtain⟨b,c,f,g,h⟩:=h;exact uq a W p b c f g d h hn k
theorem AG{a:Nat->Prop}{W:gO}{p:Nat}{d:aB}(h:bX a W p d)(hn:d.vs.length<=1000)(k:RK):
 hF prog 21 #[.pointer p,recK k] W λe w'=>e=fb (.tuple #[recK ((titleC d k).getD (0,0)),fn (titleC d k).isSome])/\Bw W w':=by
 obtain⟨b,c,f,g,h⟩:=h;exact yC a W p b c f g d h hn k
theorem vr{W:gO}{u v:g9}{l:List PK}{B a:Nat}(d:W.ownsRow B 69 4 u l (l.flatMap pkCells))(f:W.ownsRow a 69 4 v l (l.flatMap pkCells))(g:l.length<=1000):
 hF prog 14 #[u,v] W λe w'=>e=fb (fn true)/\Bw W w':=
 (nw u v l l W (aM (aD d (ft _))) (aM (aD f (ft _))) (by omega) (by omega)).mono λe w'⟨b,c⟩=>⟨by rw[b,decide_eq_true rfl],c⟩
theorem vD{W:gO}{u v:g9}{l:List RK}{B a:Nat}(d:W.ownsRow B 36 2 u l (l.flatMap rkCells))(f:W.ownsRow a 36 2 v l (l.flatMap rkCells))(g:l.length<=1000):
 hF prog 17 #[u,v] W λe w'=>e=fb (fn true)/\Bw W w':=
 (cC u v l l W (aM (aD d (ft _))) (aM (aD f (ft _))) (by omega) (by omega)).mono λe w'⟨b,c⟩=>⟨by rw[b,decide_eq_true rfl],c⟩
theorem lens(d:aB)(hn:d.vs.length<=1000):(sameC d).length<=1000/\(bQ d).length<=1000/\∀k,(membersC d k).length<=1000:=by
 have a:=ei (d:=d);exact⟨by rw[eB];omega,gf (lU d) (by omega),λk=>gf (kQ d k) (by omega)⟩
theorem vH(l:List dP)(k:Nat)(h:k<=40):Low (runC (l.take k) cat0) 40:=by
 have:=yZ (l.take k);unfold jC at this;rwa[List.take_take,Nat.min_eq_right h]at this
attribute [local go_sem] Oper.semAt_some
theorem ip.cells{w:gO}{a:Option Addr}{n c:Nat}{l:List dP}(h:ip w (fc a n c) l)(k:Nat)(f:k<l):∃b d,a=X ⟨b,d,Y⟩/\∀W,Bw w W->∀i u,(actL l[k])[i]?=X u->W.cell? ⟨b,d+(k*10+i),Y⟩=X u:=by
 obtain⟨x,c2,v,r⟩:=h.at_;have t:l.flatMap actL≠[]:=by intro e;have j:=List.flatMap_eq_nil_iff.1 e _ (gq f);cases j
 obtain⟨b,d,o,_,p,q⟩:=r t;injection v with hv1
 rw[o]at hv1;refine⟨b,d,hv1,λW m i u g=>?_⟩;have s:i<10:=(List.getElem?_eq_some_iff.1 g).1;rw[(aq m).1 b _ p];exact q _ _ ((cE actL 10 (λ_=>rfl) l k f i s).trans g)
theorem TS.set{w W:gO}{T c p:Nat}{d:aB}{b f:Nat->Prop}(h:TS w T c p d b f W){R:Nat}(m:¬b R)(n:¬f R)(l:R≠T)(o:w<=R)(i:Nat)(u:g9):TS w T c p d b f (W.setCell ⟨R,i,Y⟩ u):=by
 have a:∀k,k≠R->(W.setCell ⟨R,i,Y⟩ u).heap[k]?=W.heap[k]?:=λk a=>it _ _ _ _ a;have j:W<=(W.setCell ⟨R,i,Y⟩ u).heap.size:=by rw[h9];exact fz _
 exact⟨⟨h.pr.cat.step (λk g=>a k λe=>m (e▸g)) j,h.pr.mod.step (λk g=>a k λe=>n (e▸g)) j,h.pr.dis⟩,h.lo,(a T l.symm).trans h.tb,h.bw.setCell (p:=⟨R,i,Y⟩) o u⟩
theorem titles_4(v:g9)(l:List dP)(y:Int)(w:gO)(h:ip w v l)(hy:0<=y/\y<256):hF prog 4 #[v,J fl y] w λe w'=>e=fb (fn true)/\Bw w w':=by
 obtain⟨y,rfl⟩:∃z:Nat,y=(z:Int):=⟨y.toNat,by omega⟩;have cs:=Z (wJ w);have cu:=Z (λW=>A4 (fc Y 0 0) [] W ⟨⟨Y,0,rfl,λh=>absurd rfl h⟩,λx hx=>(by cases hx),ft _⟩);obtain⟨va,vc,rfl,_⟩:=id h.at_;have HA:=Z (λk hk=>h.cells k hk);have al:=Z h.ok;obtain⟨N,hN⟩:=Qe l.length;have HN:=Z hN;have f1:N<=9223372036854775807:=by have:=h.len;unfold maxLen at this;omega
 rw[hN];clear h hN;have e8:Int.tmod (y:Int) 8=((y%8:Nat):Int):=by rw[h5 (by omega)];omega
 have f0:y%8<8:=Nat.mod_lt _ (by omega);generalize y%8=r at*;go_enter func4,ntmps4
 go_upto_region 3 with(first
  |(go_at_call 10;((with_reducible refine fs cs.o ?_);rintro e w1⟨rfl,d9⟩;have ad:=Z d9;clear d9))
  |(go_at_call 11;((with_reducible refine fs (cu.o _) ?_);rintro e w3⟨c,p,t,C,rfl,dy,da,dq⟩;have b2:=Z dy;have bB:=Z da;have cQ:=Z dq;clear dy da dq)))
 obtain⟨T,hT⟩:=Qe w3.heap.size;obtain⟨w4,bs⟩:=Qe (w3.alloc (fr #[.pointer c,.pointer p] 27));have d3:Hid (TS w T c p (runC (l.take 0) cat0) t C w4):=by
  have dc:Bw w3 w4:=by rw[<- bs];exact(fy _ w3).alloc (fz _) _
  refine⟨b2.o.below dc,λk hk=>⟨gf ad.o.size (cQ.o k hk),λe=>?_⟩,by rw[<- bs,<- hT];exact gp w3 _,(ad.o.trans (bB.o.mono ad.o.size)).trans (dc.mono (gf ad.o.size bB.o.size))⟩;have:k<w3:=hk.elim (b2.cat.lt k) (b2.mod.lt k);omega
 rw[hT,bs];clear hT bs b2 ad bB cQ cs cu;go_wp2_with fail;go_loopw [8] (λi wr=>∃(k:Nat)(t C:Nat->Prop),k<=N/\k<=40/\i=J U k/\Hid (TS w T c p (runC (l.take k) cat0) t C wr)) (λi _=>N-(intOf i).toNat)
 exact⟨0,t,C,ft _,by omega,rfl,d3.o⟩;obtain⟨k,t,C,hk,ex,rfl,HT⟩:=hrel;clear d3;by_cases hgo:k<N/\k<40
 .obtain⟨eQ,f2⟩:=hgo;have bc:k<l:=by rw[HN.o];exact eQ
  have i1:(k:Int)<N:=by omega
  have i2:(k:Int)<40:=by omega
  have d0:=Z (rD l k bc);have e3:=al _ (gq bc);obtain⟨b,F,rfl,d8⟩:=HA k bc;have ds:=(vH l (k+1) (by omega)).lv;generalize l[k]=x at*;obtain⟨xk,xa,xb,xv,⟨qa,qb,qc,qd,qe,qf⟩⟩:=x
  have HY:∀W,(Bw w W/\W.heap[T]?=X (gX c p))->(W.cell? ⟨T,0,Y⟩=X (.pointer c)/\W.cell? ⟨T,1,Y⟩=X (.pointer p))/\(W.cell? ⟨b,F+k*10,Y⟩=X (J U xk)/\W.cell? ⟨b,F+k*10+1,Y⟩=X (J U xa)/\W.cell? ⟨b,F+k*10+2,Y⟩=X (J U xb)/\W.cell? ⟨b,F+k*10+3,Y⟩=X (J U xv))/\
   W.cell? ⟨b,F+k*10+4,Y⟩=X (J U qa)/\W.cell? ⟨b,F+k*10+5,Y⟩=X (J U qb)/\W.cell? ⟨b,F+k*10+6,Y⟩=X (J U qc)/\W.cell? ⟨b,F+k*10+7,Y⟩=X (J U qd)/\W.cell? ⟨b,F+k*10+8,Y⟩=X (J U qe)/\W.cell? ⟨b,F+k*10+9,Y⟩=X (J U qf):=λW a=>by
   have E:=d8 W a.1
   simp only[Nat.add_assoc]
   exact⟨⟨(ab a.2 0).trans rfl,(ab a.2 1).trans rfl⟩,⟨E 0 _ rfl,E 1 _ rfl,E 2 _ rfl,E 3 _ rfl⟩,E 4 _ rfl,E 5 _ rfl,E 6 _ rfl,E 7 _ rfl,E 8 _ rfl,E 9 _ rfl⟩
  have aS:=HT.below (fy _ wr).drew;have cx:=Z (Co t C wr.drew c p _ aS.pr xk xa xb xv qa qb qc qd qe qf e3);have d2:=Z aS;have P:Bw w wr.drew/\wr.drew.heap[T]?=X (gX c p):=⟨aS.bw,aS.tb⟩;have dz:(actC (runC (l.take k) cat0) ⟨xk,xa,xb,xv,⟨qa,qb,qc,qd,qe,qf⟩⟩).1=runC (l.take (k+1)) cat0:=d0.symm;have g:Hid ((runC (l.take (k+1)) cat0).vs.length<=1000):=gf ds (by decide);clear bc d8 e3 aS ds d0;go_upto_region 8 with fail;refine wT (λW=>Bw w W/\W.heap[T]?=X (gX c p)) 999 ?_;refine Qd [0,1,2,3,4] P HY ?_;refine Dp 5 λK O=>?_;go_simp;go_at_call 13;with_reducible refine fs cx.o ?_
  rintro e w5⟨e4,cq,rfl,hP,hS⟩;have b1:=d2.act hP hS;rw[dz]at b1;refine O _ _ (λ_=>⟨b1.bw,b1.tb⟩) ?_;clear O K;refine dN ?_;have I:=Z b1;clear b1 hP hS P HY dz cx d2 HT;have em:Int.tmod (k:Int) (1+(r:Int))=((k%(1+r):Nat):Int):=by rw[h5 (by omega)];push_cast;rfl
  obtain⟨z,hz⟩:=Qe (k%(1+r));rw[hz]at em;clear hz;by_cases hz:z=0;rotate_left
  .have f3:((z:Int)==0)=false:=by simp;omega
   have f4:((z:Int)!=0)=true:=by simp;omega
   clear hz;go_wp2_with fail;go_roundw;exact⟨k+1,e4,cq,by omega,by omega,by go_num,I.o⟩;simp[intOf];omega
  subst hz;go_upto_region 10 with fail;have f:=I.below (fy _ w5).drew;have a5:∀W:gO,W.heap[T]?=X (gX c p)->W.cell? ⟨T,0,Y⟩=X (.pointer c)/\W.cell? ⟨T,1,Y⟩=X (.pointer p):=λW a=>⟨(ab a 0).trans rfl,(ab a 1).trans rfl⟩;refine wT (λW=>W.heap[T]?=X (gX c p)) 999 ?_;refine Qd [0,1,3,4] f.tb a5 ?_;refine Dp 2 λK O=>?_;go_simp;go_at_call 15;with_reducible refine fs (vw _ _ c _ f.pr.cat g.o) ?_
  rintro e w6⟨v6,F6,rfl,av,ax,a2,_⟩;obtain⟨a6,c6,rfl⟩:=aw a2;have V:=f.cat av ax;refine O _ _ (λ_=>V.tb) ?_;clear O K;refine Dp 5 λK O=>?_;go_simp;go_at_call 16;with_reducible refine fs (yS V.pr.mod g.o) ?_
  rintro e w7⟨v7,rfl,a3,a1⟩;obtain⟨a7,c7,rfl⟩:=aw a3;have a4:=V.below a1;refine O _ _ (λ_=>a4.tb) ?_;clear O K;refine Dp 6 λK O=>?_;go_simp;go_at_call 14;with_reducible refine fs (vr (ap a2 a1) a3 (lens _ g.o).1) ?_
  rintro e G⟨rfl,M⟩;have D:=a4.below M;refine O _ _ (λ_=>D.tb) ?_;clear O K;refine Qc [7,8] D.tb ?_;refine Qd [9,10,12,13] D.tb a5 ?_;refine Dq 11 λK O=>?_;go_simp;go_at_call 18;with_reducible refine fs (eh _ _ c _ D.pr.cat g.o) ?_
  rintro e w9⟨v9,F9,rfl,d5,d7,ch,_⟩;obtain⟨a9,c9,rfl⟩:=aw ch;have bd:=D.cat d5 d7;refine O _ _ (λ_=>bd.tb) ?_;clear O K;refine Dq 14 λK O=>?_;go_simp;go_at_call 19;with_reducible refine fs (yB bd.pr.mod g.o) ?_
  rintro e wa⟨vb,rfl,ci,cc⟩;obtain⟨aa,ca,rfl⟩:=aw ci;have cp:=bd.below cc;refine O _ _ (λ_=>cp.tb) ?_;clear O K;refine Dq 15 λK O=>?_;go_simp;go_at_call 17;with_reducible refine fs (vD (ap ch cc) ci (lens _ g.o).2.1) ?_
  rintro e wb⟨rfl,dk⟩;have bk:=cp.below dk;refine O _ _ (λ_=>bk.tb) ?_;clear O K;refine Qc [16,17] bk.tb ?_;refine dN ?_;have er:=Z bk;clear f a5 av ax a2 V a3 a1 a4 M D d5 d7 ch bd ci cc cp dk bk;go_wp2_with fail;go_roundw
  case rel=>exact⟨k+1,F9,cq,by omega,by omega,by go_num,er.o⟩
  simp[intOf];omega
 have g:Hid ((runC (l.take k) cat0).vs.length<=1000):=gf (vH l k ex).lv (by decide);have hx:¬(k:Int)<N∨((k:Int)<N/\¬(k:Int)<40):=by omega
 generalize runC (l.take k) cat0=d at*;clear hgo HA al HN e8 f0;rcases hx with i1|⟨i1,i2⟩
 all_goals
  go_wp2_with fail
  go_loopw [9] (λi wr=>∃(n:Nat)(t:Nat->Prop),n<=13/\i=J U n/\Hid (TS w T c p d t C wr)) (λi _=>13-(intOf i).toNat)
  case' atStart=>exact⟨0,t,by omega,rfl,HT.o⟩
  case' round=>
   clear HT
   obtain⟨n,t,hn,rfl,HT⟩:=hrel
   by_cases hlt:n<13
   .have i3:(n:Int)<13:=by omega
    have b6:=pP n wr (by omega)
    obtain⟨⟨r1,r2⟩,hr⟩:∃r,recI n=r:=⟨_,rfl⟩
    have dx:rkOk (r1,r2):=hr▸eN n
    rw[hr]at b6
    unfold recK at b6
    have cv:=Z b6
    have al:=Z dx
    clear b6 hr dx
    go_upto_region 16 with(go_at_call 20;(refine fs cv.o ?_;rintro e w5⟨rfl,dd⟩;have I:=Z (HT.o.below dd);clear dd))
    obtain⟨R,hR⟩:=Qe w5.heap.size
    obtain⟨w6,bt⟩:=Qe (w5.alloc (fr #[r1,r2] 36))
    have c1:Hid (TS w T c p d t C w6):=by rw[<- bt];exact I.o.below ((fy _ w5).alloc (fz _) _)
    have a0:Hid (w6.heap[R]?=X (fr #[r1,r2] 36 (0,0))):=by rw[<- bt,<- hR];exact gp w5 _
    have H:Hid (¬t R/\¬C R/\R≠T/\w<=R):=by
     refine⟨I.fresh (Nat.le_of_eq hR),λhf=>?_,λe=>?_,?_⟩
     .have:=I.o.pr.mod.lt R hf;omega
     .have:=af I.o.tb;omega
     .have:=I.o.bw.size;omega
    rw[hR,bt]
    clear hR bt I cv HT
    obtain⟨b,hb⟩:=Qe (((n:Int)==12))
    go_upto_if 70 with fail
    go_cut [] (λu=>Hid (TS w T c p d t C u)/\∃j m,Hid (rkOk (j,m))/\Hid (u.heap[R]?=X (fr #[J U j,J U m] 36 (0,0))))
    case' first=>
     clear hb
     cases b
     .go_wp2_with fail
      go_meet
      exact⟨c1.o,r1,r2,al.o,a0.o⟩
     .have z0:=ae a0.o 0
      have z1:=ae a0.o 1
      have y0:w6.cell? ⟨R,0,Y⟩=X (J U r1):=(ab a0.o 0).trans rfl
      have y1:w6.cell? ⟨R,1,Y⟩=X (J U r2):=(ab a0.o 1).trans rfl
      go_wp2_with fail
      go_meet
      refine⟨(c1.o.set H.o.1 H.o.2.1 H.o.2.2.1 H.o.2.2.2 0 _).set H.o.1 H.o.2.1 H.o.2.2.1 H.o.2.2.2 1 _,9,0,by unfold Hid rkOk i64B;omega,?_⟩
      exact(aA (aA a0.o 0 _) 1 _).trans rfl
    case' rest=>
     obtain⟨au,j,m,cP,b3⟩:=hcut
     clear hb al c1 a0
     obtain⟨⟨A,B⟩,hs⟩:∃s,(titleC d (j,m)).getD (0,0)=s:=⟨_,rfl⟩
     obtain⟨se,e0⟩:=Qe ((titleC d (j,m)).isSome)
     have b5:=yD t wc c d au.pr.cat g.o (j,m) cP.o
     have b7:=λ(W:gO)(h:bX C W p d)=>AG h g.o (j,m)
     rw[hs,e0]at b5 b7
     dsimp only[recK]at b5 b7
     have e5:=Z b5
     have e6:=Z b7
     clear hs e0 b5 b7
     have t0:wc.cell? ⟨T,0,Y⟩=X (.pointer c):=(ab au.tb 0).trans rfl
     have r0:wc.cell? ⟨R,0,Y⟩=X (J U j):=(ab b3.o 0).trans rfl
     have r1:wc.cell? ⟨R,1,Y⟩=X (J U m):=(ab b3.o 1).trans rfl
     go_upto_region 19 with(go_at_call 12;(refine fs e5.o ?_;rintro e w7⟨F7,rfl,hC,sC⟩;have d1:=Z (au.o.cat hC sC);have c0:=Z (au.o.own sC b3.o H.o.1);clear hC sC))
     obtain⟨L,b8⟩:=Qe w7.heap.size
     obtain⟨G,bv⟩:=Qe (w7.alloc (fr #[A,B] 36))
     have M:Bw w7 G:=by rw[<- bv];exact(fy _ w7).alloc (fz _) _
     have b4:=Z (d1.below M)
     have ao:Hid (G.heap[R]?=_):=(M.block R (af c0.1)).trans c0.1
     have bY:Hid (G.heap[L]?=X (fr #[A,B] 36 (0,0))):=by rw[<- bv,<- b8];exact gp w7 _
     have e9:Hid (¬F7 L):=d1.fresh (Nat.le_of_eq b8)
     rw[b8,bv]
     clear b8 bv M t0 r0 r1
     have t0:G.cell? ⟨T,1,Y⟩=X (.pointer p):=(ab b4.tb 1).trans rfl
     have r0:G.cell? ⟨R,0,Y⟩=X (J U j):=(ab ao.o 0).trans rfl
     have r1:G.cell? ⟨R,1,Y⟩=X (J U m):=(ab ao.o 1).trans rfl
     go_upto_region 20 with(go_at_call 21;(refine fs (e6.o _ b4.o.pr.mod) ?_;rintro e w9⟨rfl,cb⟩;have c2:=Z (b4.o.below cb);have bO:=Z cb;clear cb))
     obtain⟨Q2,b9⟩:=Qe w9.heap.size
     obtain⟨u,bA⟩:=Qe (w9.alloc (fr #[A,B] 36))
     have cg:Bw w9 u:=by rw[<- bA];exact(fy _ w9).alloc (fz _) _
     have d4:=Z (c2.below cg)
     have c5:=btr bO.o cg bO.size
     have eq:Hid (u.heap[R]?=_):=(c5.block R (af ao.o)).trans ao.o
     have ej:Hid (u.heap[L]?=_):=(c5.block L (af bY.o)).trans bY.o
     have eg:Hid (u.heap[Q2]?=X (fr #[A,B] 36 (0,0))):=by rw[<- bA,<- b9];exact gp w9 _
     have eb:Hid (¬F7 Q2):=c2.fresh (Nat.le_of_eq b9)
     rw[b9,bA]
     clear b9 bA cg c5 t0 r0 r1 b4 ao bY c2 bO au b3
     have f:=d4.below (fy _ u).drew
     have P:u.drew.heap[T]?=X (gX c p)/\u.drew.heap[R]?=X (fr #[j,m] 36 (0,0))/\u.drew.heap[L]?=X (fr #[A,B] 36 (0,0))/\u.drew.heap[Q2]?=X (fr #[A,B] 36 (0,0)):=⟨d4.tb,eq.o,ej.o,eg.o⟩
     have hY:∀W:gO,(W.heap[T]?=X (gX c p)/\W.heap[R]?=X (fr #[j,m] 36 (0,0))/\W.heap[L]?=X (fr #[A,B] 36 (0,0))/\W.heap[Q2]?=X (fr #[A,B] 36 (0,0)))->
      (W.cell? ⟨T,0,Y⟩=X (.pointer c)/\W.cell? ⟨T,1,Y⟩=X (.pointer p))/\(W.cell? ⟨R,0,Y⟩=X (J U j)/\W.cell? ⟨R,1,Y⟩=X (J U m))/\(W.cell? L=X (J U A)/\W.cell? ⟨L,1,Y⟩=X (J U B))/\W.cell? Q2=X (J U A)/\W.cell? ⟨Q2,1,Y⟩=X (J U B):=λW a=>
      ⟨⟨(ab a.1 0).trans rfl,(ab a.1 1).trans rfl⟩,⟨(ab a.2.1 0).trans rfl,(ab a.2.1 1).trans rfl⟩,⟨(ab a.2.2.1 0).trans rfl,(ab a.2.2.1 1).trans rfl⟩,(ab a.2.2.2 0).trans rfl,(ab a.2.2.2 1).trans rfl⟩
     refine wT (λW=>W.heap[T]?=X (gX c p)/\W.heap[R]?=X (fr #[j,m] 36 (0,0))/\W.heap[L]?=X (fr #[A,B] 36 (0,0))/\W.heap[Q2]?=X (fr #[A,B] 36 (0,0))) 999 ?_
     refine Qd [0,1,2,3,4,5,6,7,8] P hY ?_
     refine Qd [9,10,11,13,14,15] P hY ?_
     have c3:=cf F7 _ c d f.pr.cat g.o (j,m) cP.o
     dsimp only[recK]at c3
     refine Dq 12 λK O=>?_
     go_simp
     go_at_call 22
     with_reducible refine fs c3 ?_
     rintro e wy⟨vy,Fy,rfl,d6,aC,cj,_⟩
     obtain⟨ay,cy,rfl⟩:=aw cj
     have bl:=f.cat d6 aC
     have a8:=And.intro bl.tb (And.intro (f.own aC P.2.1 c0.2).1 (And.intro (f.own aC P.2.2.1 e9.o).1 (f.own aC P.2.2.2 eb.o).1))
     refine O _ _ (λ_=>a8) ?_
     clear O K
     have c4:=wY bl.pr.mod g.o (j,m)
     dsimp only[recK]at c4
     refine Dq 16 λK O=>?_
     go_simp
     go_at_call 23
     with_reducible refine fs c4 ?_
     rintro e wz⟨vz,rfl,cl,bb⟩
     obtain⟨az,cz,rfl⟩:=aw cl
     have e2:=bl.below bb
     have b0:∀{q:Nat}{o:Obj},wy.heap[q]?=X o->wz.heap[q]?=X o:=λh=>(bb.block _ (Array.getElem?_eq_some_iff.1 h).1).trans h
     have ac:=And.intro (b0 a8.1) (And.intro (b0 a8.2.1) (And.intro (b0 a8.2.2.1) (b0 a8.2.2.2)))
     refine O _ _ (λ_=>ac) ?_
     clear O K
     refine Dq 17 λK O=>?_
     go_simp
     go_at_call 17
     with_reducible refine fs (vD (ap cj bb) cl ((lens _ g.o).2.2 _)) ?_
     rintro e wu⟨rfl,cd⟩
     have e1:=e2.below cd
     have aT:∀{q:Nat}{o:Obj},wz.heap[q]?=X o->wu.heap[q]?=X o:=λh=>(cd.block _ (Array.getElem?_eq_some_iff.1 h).1).trans h
     have cm:=And.intro (aT ac.1) (And.intro (aT ac.2.1) (And.intro (aT ac.2.2.1) (aT ac.2.2.2)))
     refine O _ _ (λ_=>cm) ?_
     clear O K
     refine Qc [18,19] cm ?_
     refine dN ?_
     have es:=Z e1
     clear c3 c4 f P hY d6 aC cj bl a8 cl bb e2 b0 ac cd e1 aT cm
     go_wp2_with fail
     go_roundw
     case' rel=>exact⟨n+1,Fy,by omega,by go_num,es.o⟩
     case' measure=>simp[intOf];omega
   .go_upto_region 22 with fail
    have f:=HT.below (fy _ wr).drew
    have a5:∀W:gO,W.heap[T]?=X (gX c p)->W.cell? ⟨T,0,Y⟩=X (.pointer c)/\W.cell? ⟨T,1,Y⟩=X (.pointer p):=λW a=>⟨(ab a 0).trans rfl,(ab a 1).trans rfl⟩
    refine wT (λW=>W.heap[T]?=X (gX c p)) 999 ?_
    refine Qd [0,1,2,3,5,6] f.tb a5 ?_
    refine Dq 4 λK O=>?_
    go_simp
    go_at_call 15
    with_reducible refine fs (vw _ _ c _ f.pr.cat g.o) ?_
    rintro e w6⟨v6,F6,rfl,av,ax,a2,_⟩
    obtain⟨a6,c6,rfl⟩:=aw a2
    have V:=f.cat av ax
    refine O _ _ (λ_=>V.tb) ?_
    clear O K
    refine Dq 7 λK O=>?_
    go_simp
    go_at_call 16
    with_reducible refine fs (yS V.pr.mod g.o) ?_
    rintro e w7⟨v7,rfl,a3,a1⟩
    obtain⟨a7,c7,rfl⟩:=aw a3
    have a4:=V.below a1
    refine O _ _ (λ_=>a4.tb) ?_
    clear O K
    refine Dq 8 λK O=>?_
    go_simp
    go_at_call 14
    with_reducible refine fs (vr (ap a2 a1) a3 (lens _ g.o).1) ?_
    rintro e G⟨rfl,M⟩
    have D:=a4.below M
    refine O _ _ (λ_=>D.tb) ?_
    clear O K
    refine Qc [9,10] D.tb ?_
    refine dN ?_
    have e7:=Z D.bw
    clear f a5 av ax a2 V a3 a1 a4 M D
    go_wp2_with fail
    go_ret
    exact⟨rfl,e7.o⟩
end
end Go.Proofs.YtjcimanddakkaaaGreatDoor
