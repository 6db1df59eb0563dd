/- Lemmas. -/
import Derived.Test.YtjcimanddakkaaaGreatDoorCT6
import Derived.Great.Walk
import Derived.DeepKeys4
set_option maxRecDepth 100000
set_option maxHeartbeats 8000000
namespace Go.Proofs.YtjcimanddakkaaaGreatDoor
open Go.Ending renaming returned→bd
open Go.Value renaming int→J,bool→bl,slice→bv,map→bA,pointer→bB
open Go.IntKind renaming u8→bk,i64→U,i32→bt
open Go.Lib renaming hid→Z
open _root_.Option renaming none→Y,some→X
open Go.Obj renaming cells→bw
open Tryz
open _root_.Nat renaming le_refl→bO,zero_le→cl,lt_of_lt_of_le→cy,zero_add→eg,le_of_lt→fl,le_trans→gq
open _root_.List renaming take_succ_eq_append_getElem→bY,take_of_length_le→ca,length_append→ci,getElem_mem→cm,getElem?_eq_getElem→cs,getD_eq_getElem?_getD→cu,length_cons→cz,drop_of_length_le→c4,flatMap_cons→c5,length_take→dk,mem_of_mem_take→dq,map_append→dx,length_map→dy,length→dz,drop_eq_getElem_cons→ej,append_assoc→em,map_cons→er,all_eq_true→eQ,mem_append→e4,append_nil→e5,mem_singleton→fb,nil_append→fr,getElem_cons_succ→fy,take_append_drop→gf,set_append_right→gi,mem_cons_of_mem→gx,mem_cons_self→gz
open Go.World renaming alloc_heap_new→cb,size_alloc→cq,ownsRow_nil→cP,size_setCell→cQ,cell?_alloc_new→c7,cell?_of_block→gb
open Go.Calls renaming mono→cc
open Go.RowKit.Below renaming refl→cd,heap_alloc→cg,heap_setCell→ch
open Go renaming World→cj,Value→cp,Calls→cx,rounds_succ→e6,TypeId→e9,bodyPost_ret→ft,wp_loop_rounds→gn
open _root_.Int renaming tmod_eq_emod_of_nonneg→cv,tdiv_eq_ediv_of_nonneg→eb
open Go.Program renaming keyLits→es
open Go.Lib renaming run_eql_slice_nil→e7
open Go.Value renaming int→e8,slice→gp
open _root_.UInt8 renaming ofNat→fp
open _root_.Prod renaming ext→fx
open Go.Instr renaming lookup→fz
open _root_.ByteArray renaming size→gy
section
open Go.RowKit Go.Maps Go.Shelf
theorem oW(s:Bs)(w:cj)(O:12<=s.length)(V:s.length<=1000)(a:(s.take 12).all digitB=true):cx prog 143 #[S s] w λe w'=>e=bd (J bk (checkR s).toNat)/\w=w':=by
 obtain⟨t,b⟩:=Qe (s.take 12);have o:t.length=12:=by rw[<- b];simp;omega
 have y:Hid (checkR s=fp (48+(10-checkGo 0 t%10)%10)):=by unfold Hid;rw[<- b];rfl
 rw[b]at a;have p:Hid (∀k(h:k<t.length),digitB t[k]=true):=λk h=>by rw[eQ]at a;exact a _ (cm h)
 have m:Hid (∀k,checkGo 0 (t.take k)<=765*12):=λk=>by
  have:=mV (t.take k) 0 (λc j=>by
   have f:digitB c=true:=by rw[eQ]at a;exact a _ (dq j)
   have g:=c8 f;unfold valB;omega)
  have C:(t.take k).length<=12:=by rw[dk];omega
  omega
 have u:Hid (∀k(h:k<12),∃(g:k<s.length)(C:k<t.length),s[k]=t[k]):=λk h=>⟨by omega,by omega,by subst b;rw[List.getElem_take]⟩;have A:=Z o;clear a o b;go_enter func143,ntmps143;go_wp2_with fail;go_loop [3,4,5] (λG i _=>∃(k:Nat),k<=12/\i=J U k/\G=J U (checkGo 0 (t.take k):Nat)) (λ_ i _=>12-(intOf i).toNat)
 case atStart=>exact⟨0,cl _,rfl,rfl⟩
 obtain⟨k,L,rfl,rfl⟩:=hrel;by_cases hlt:k<12
 .obtain⟨N,l,n⟩:=u k hlt;have E:=m k;obtain⟨f,g⟩:=c8 (p k l);have d:Hid (checkGo 0 (t.take (k+1))=checkGo 0 (t.take k)+(t[k].toNat-48)*(1+2*(k%2))):=by unfold Hid;rw[jQ t k l,eg];simp[valB,cu,cs l]
  have Q:(Int.tmod (k:Int) 2)=((k%2:Nat):Int):=by rw[cv (by omega)];omega
  have M:k%2<2:=Nat.mod_lt _ (by omega);rw[<- n]at f g d;generalize checkGo 0 (t.take k)=q at*;generalize k%2=r at*;obtain⟨c,j⟩:=Qe (s[k].toNat);rw[j]at f g d;have W:IntKind.u8.wrap ((c:Int)-48)=(c:Int)-48:=by unfold IntKind.wrap;simp[IntKind.signed,IntKind.bits];omega
  have F:r=0∨r=1:=by omega
  clear n;rcases F with rfl|rfl
  .go_wp2_with fail;go_round
   case rel=>exact⟨k+1,by omega,by go_num,by rw[d.o];go_num⟩
   simp[intOf];omega
  go_wp2_with fail;go_round
  case rel=>exact⟨k+1,by omega,by go_num,by rw[d.o];go_num⟩
  simp[intOf];omega
 have D:k=12:=by omega
 subst D;have E:=m 12;have v:Hid (checkGo 0 (t.take 12)=checkGo 0 t):=by unfold Hid;rw[ca (by rw[A.o];exact bO _)]
 have H:Int.tmod ((checkGo 0 (t.take 12):Nat):Int) 10=((checkGo 0 (t.take 12)%10:Nat):Int):=by rw[cv (by omega)];omega
 generalize checkGo 0 (t.take 12)=q at*;have R:q%10<10:=Nat.mod_lt _ (by omega);generalize hqq:q%10=r at*;have I:Int.tmod (10-(r:Int)) 10=(((10-r)%10:Nat):Int):=by rw[cv (by omega)];omega
 have T:(10-r)%10<10:=Nat.mod_lt _ (by omega);rw[v.o]at hqq;have z:Hid (checkR s=fp (48+(10-r)%10)):=by unfold Hid;rw[y.o,hqq]
 generalize(10-r)%10=x at*;go_wp2_with fail;go_ret;refine⟨?_,rfl⟩;rw[z.o];simp;omega
theorem tM(s:Bs)(b:Nat)(a:b<s)(k:Nat):tenGo k (s.take (b+1))=tenGo k (s.take b)+(10-(k+b))*(if xB s[b]then 10 else valB s[b]):=by
 induction s generalizing b k with
 |nil=>simp at a
 |cons c l ih=>
  cases b with
  |zero=>simp[tenGo]
  |succ b=>
   have d:b<l:=by simpa using a
   have h:=ih b d (k+1);simp only[List.take_succ_cons,tenGo,fy];rw[h,show k+1+b=k+(b+1) by omega];omega
theorem yH(s:Bs)(k:Nat)(h:∀c∈s,digitB c=true∨xB c=true):tenGo k s<=100*s:=by
 induction s generalizing k with
 |nil=>simp[tenGo]
 |cons c l ih=>
  have e:=ih (k+1) λx d=>h x (gx _ d);have a:=h c gz;simp only[tenGo,cz];have b:(if xB c=true then 10 else valB c)<=10:=by
   split
   .omega
   rcases a with a|a
   .have:=c8 a;unfold valB;omega
   contradiction
  have f:(10-k)*(if xB c=true then 10 else valB c)<=10*10:=Nat.mul_le_mul (by omega) b;omega
theorem AI(s:Bs)(w:cj)(M:s.length=10)(l:∀c∈s,digitB c=true∨xB c=true):cx prog 142 #[S s] w λe w'=>e=bd (bl (jw s))/\w=w':=by
 have T:Hid (∀k(h:k<s.length),digitB s[k]=true∨xB s[k]=true):=λk h=>l _ (cm h);have F:Hid (∀k,tenGo 0 (s.take k)<=1000):=λk=>by
  have:=yH (s.take k) 0 (λc j=>l c (dq j));have v:(s.take k).length<=10:=by rw[dk];omega
  omega
 have E:=Z M;have G:Hid (jw s=(decide (tenGo 0 s%11=0)&&(s.take 9).all digitB)):=rfl;clear l M;go_enter func142,ntmps142;go_wp2_with fail;go_loop [3,4,5] (λsu i _=>∃(k:Nat),k<=10/\i=J U k/\su=J U (tenGo 0 (s.take k):Nat)/\((s.take k).take 9).all digitB=true) (λ_ i _=>10-(intOf i).toNat)
 case atStart=>exact⟨0,cl _,rfl,rfl,rfl⟩
 obtain⟨k,hk,rfl,rfl,L⟩:=hrel;have m:=Z L;clear L;by_cases hlt:k<10;rotate_left
 .have a0:k=10:=by omega
  subst a0;have N:=F 10;have A:s.take 10=s:=ca (by rw[E.o];exact bO _);rw[A]at m N;rw[A];have H:Hid (jw s=decide (tenGo 0 s%11=0)):=by unfold Hid;rw[G.o,m.o,Bool.and_true]
  have W:Int.tmod ((tenGo 0 s:Nat):Int) 11=((tenGo 0 s%11:Nat):Int):=by rw[cv (by omega)];omega
  generalize tenGo 0 s=q at*;obtain⟨r,O⟩:=Qe (q%11);rw[O]at W H;clear A O;go_wp2_with fail;go_ret;refine⟨am ?_,rfl⟩;rw[H.o,Bool.eq_iff_iff];simp
 have o:k<s:=by rw[E.o];exact hlt
 have N:=F k;have b:=Z (tM s k o 0);rw[eg]at b;have n:=T k o;have t:Hid (s[k]∈s/\(k<9->s[k]∈s.take 9)/\s.take (k+1)=s.take k++[s[k]]):=⟨cm o,λh=>List.mem_take_iff_getElem.2 ⟨k,by omega,rfl⟩,bY o⟩;generalize tenGo 0 (s.take k)=q at*;obtain⟨c,j⟩:=Qe (s[k]);rw[j]at b n t;have g:s[k].toNat=c:=by rw[j]
 by_cases hx:xB c=true;rotate_left
 .have x:digitB c=true:=n.resolve_right hx;rw[if_neg hx]at b;obtain⟨f,u⟩:=c8 x;have V:=Z x;have Q:¬(c.toNat:Int)=88:=by omega
  have R:¬(c.toNat:Int)=120:=by omega
  rw[<- g]at f u Q R;have I:Hid (tenGo 0 (s.take (k+1))=q+(10-k)*(s[k].toNat-48)):=by unfold Hid;rw[b.o,g];rfl
  clear hx n j x g;obtain⟨d,l⟩:=Qe (s[k].toNat);rw[l]at f u Q R I;have n3:¬d=88:=by omega
  have n4:¬d=120:=by omega
  have n5:((d:Int)==88)=false:=by simp;omega
  have n6:((d:Int)==120)=false:=by simp;omega
  have hm:(10-(k:Int))*((d:Int)-48)=(((10-k)*(d-48):Nat):Int):=by rw[Int.natCast_mul];congr 1<;>omega
  have a2:(10-k)*(d-48)<=10*10:=Nat.mul_le_mul (by omega) (by omega);generalize(10-k)*(d-48)=z at*;go_wp2_with fail;go_round
  case rel=>
   refine⟨k+1,by omega,by go_num,by rw[I.o];go_num,?_⟩;rw[t.o.2.2,eQ];intro y hy;rcases List.mem_append.1 (dq hy)with p|p
   .by_cases hk9:k<=9
    .have v:=m.o;rw[List.take_take,Nat.min_eq_right hk9]at v;exact List.all_eq_true.1 v y p
    omega
   rw[fb]at p;rw[p];exact V.o
  simp[intOf];omega
 have a:c.toNat=88∨c.toNat=120:=by
  unfold xB at hx;simp only[Bool.or_eq_true,decide_eq_true_eq]at hx;rcases hx with rfl|rfl
  .exact .inl rfl
  exact .inr rfl
 rw[if_pos hx]at b;have HX:=Z hx;clear hx n j;by_cases hk9:k<9
 .have D:Hid (jw s=false):=by unfold Hid;rw[G.o,Bool.and_eq_false_iff];right;rw[Bool.eq_false_iff];intro h;have f:=List.all_eq_true.1 h c (t.2.1 hk9);have u:=c8 f;omega
  have i1:(k:Int)<9:=by omega
  rcases a with a|a
  .rw[a]at g;go_wp2_with fail;go_ret;exact⟨am D.symm,rfl⟩
  rw[a]at g;go_wp2_with fail;go_ret;exact⟨am D.symm,rfl⟩
 have a1:k=9:=by omega
 have C:Hid (((s.take (k+1)).take 9).all digitB=true):=by unfold Hid;have f:=m.o;rw[List.take_take]at f ⊢;rw[show min 9 (k+1)=min 9 k by omega];exact f
 have i1:¬(k:Int)<9:=by omega
 have a3:(10-(k:Int))*10=10:=by omega
 rw[show(10-k)*10=10 by omega]at b;clear a1;rcases a with a|a
 .rw[a]at g;go_wp2_with fail;go_round
  case rel=>exact⟨k+1,by omega,by go_num,by rw[b.o];go_num,C.o⟩
  simp[intOf];omega
 rw[a]at g;go_wp2_with fail;go_round
 case rel=>exact⟨k+1,by omega,by go_num,by rw[b.o];go_num,C.o⟩
 simp[intOf];omega
def A9(s:Bs):Bs:=fp (48+min (stripR s).length 99/10)::fp (48+min (stripR s).length 99%10)::stripR s
theorem um(s:Bs)(w:cj)(C:s.length<=1000000000):cx prog 201 #[S s] w λe w'=>e=bd (S (A9 s))/\Bw w w':=by
 unfold A9;obtain⟨r,j⟩:=Qe (stripR s);rw[j];have G:=Z j;have H:=Z C;clear j C;go_enter func201,ntmps201;go_wp2_with fail;go_loop [0] (λv=>∃t:Bs,v=S t/\Hid (stripR t=r)/\Hid (t.length<=s)) (λv=>match v with| .string b=>b.size|_=>0)
 case atStart=>exact⟨s,rfl,G.o,bO _⟩
 obtain⟨t,rfl,f,F⟩:=hrel;have V:=F.o;have a0:=H.o;by_cases hgo:1<t.length/\∃h:0<t.length,t[0]=48
 .obtain⟨A,g,a⟩:=hgo;have q:Hid (stripR (t.drop 1)=r/\(t.drop 1).length<t):=by
   match t,A,g,a,f with
   |c::d::l,_,_,a,f=> have a:c=48:=a;subst a;exact⟨f.o,by simp⟩
  have o:(t.length:Int)>1:=by omega
  have O:t[0].toNat=48:=by rw[a];rfl
  clear a;go_wp2_with fail;go_round
  case rel=>exact⟨t.drop 1,by rw[List.drop_one],q.o.1,by unfold Hid;have:=q.o.2;omega⟩
  simp[gy];omega
 have D:stripR t=t:=by
  match t,hgo with
  |[],_=>rfl
  |[c],_=>rfl
  |c::d::l,hgo=> have a:c≠48:=λh=>hgo ⟨by simp,by simp,h⟩;unfold stripR;rw[if_neg a]
 have R:r=t:=by rw[<- f.o,D]
 subst R;have Q:min (r.length:Int) 99=((min r.length 99:Nat):Int):=by omega
 obtain⟨m,i⟩:=Qe (min r.length 99);have W:m<=99:=by omega
 rw[i]at Q;have p:=Z i;have I:(m:Int).tdiv 10=((m/10:Nat):Int):=by rw[eb (by omega)];omega
 have L:(m:Int).tmod 10=((m%10:Nat):Int):=by rw[cv (by omega)];omega
 obtain⟨x,k⟩:=Qe (m/10);obtain⟨y,n⟩:=Qe (m%10);have a1:x<=9:=by omega
 have a2:y<=9:=by omega
 rw[k]at I;rw[n]at L;have u:=Z k;have z:=Z n;have T:¬9223372036854775807<2+r.length:=by omega
 have E:Hid (¬((r.length:Int)>1/\∃h:0<r.length,r[0].toNat=48)):=λ⟨A,g,N⟩=>hgo ⟨by omega,g,UInt8.toNat_inj.1 N⟩;clear i k n D hgo;by_cases hl1:1<r.length
 .have o:(r.length:Int)>1:=by omega
  have M:0<r.length:=by omega
  have O:¬r[0].toNat=48:=λh=>E ⟨o,M,h⟩;go_wp2_with fail;go_ret;exact⟨by rw[p.o,u.o,z.o];rfl,(cd _ w).alloc (bO _) _⟩
 have o:¬(r.length:Int)>1:=by omega
 go_wp2_with fail;go_ret;exact⟨by rw[p.o,u.o,z.o];rfl,(cd _ w).alloc (bO _) _⟩
theorem uO(s:ByteArray):∀(f:List Nat)(d a:Nat)(e:Array cp),fa s a f->s.size<=a+d->Conv.runesFrom s d a e=e++(f.map λc:Nat=>e8 bt c).toArray:=by
 intro f;induction f with
 |nil=>
  intro d a e h k;have h:a=s.size:=h;cases d with
  |zero=>simp[Conv.runesFrom]
  |succ b=>unfold Conv.runesFrom;rw[if_neg (by omega)];simp
 |cons c f ih=>
  intro d a e h k;obtain⟨g,i,l,m,j⟩:=h;cases d with
  |zero=>omega
  |succ b=> unfold Conv.runesFrom;rw[if_pos g];show Conv.runesFrom s b (a+(Utf8.decode s a).2) (e.push (J bt (Int.ofNat (Utf8.decode s a).1)))=_;rw[ih b _ _ j (by omega),i];simp
theorem om(W:cj)(l:Bs)(a:List Nat)(g:runesR l=a)(k:l.length<=1000000):∃(d:Nat)(W':cj),(convert 9 226 (S l)).run prog W=.ok (bv W a d) W'/\Bw W W'/\W<W'.heap.size/\∀j(h:j<a.length),W'.cell? ⟨W,j,Y⟩=X (J bt a[j]):=by
 subst g;have e:=uO ⟨l.toArray⟩ (runesR l) (⟨l.toArray⟩:ByteArray).size 0 #[] (eF l) (by omega);have i:=size_runesFrom ⟨l.toArray⟩ (⟨l.toArray⟩:ByteArray).size 0 #[];have m:(⟨l.toArray⟩:ByteArray).size=l:=by simp[gy]
 have f:(Conv.runesFrom ⟨l.toArray⟩ (⟨l.toArray⟩:ByteArray).size 0 #[]).size<=70368744177664:=by simp at i;omega
 have b:=run_runes_of_string (P:=prog) W 9 226 21 ⟨l.toArray⟩ underlying9 underlying226 underlying21 f;rw[e]at b;have hn:(#[]++((runesR l).map λc:Nat=>e8 bt c).toArray).size=(runesR l).length:=by simp
 rw[hn]at b;refine⟨_,_,b,(cd _ W).drew.alloc (bO _) _,by simp,λj h=>?_⟩;rw[show W=W.drew.heap.size from rfl,c7,Array.getElem?_append_left (by simpa using h)];simp[h]
def rowCells(p:Bs×List Nat):List cp:=[S p.1,S (p.2.flatMap enc)]
theorem wt(w:cj):cx prog 265 #[] w λe w'=>e=bd (bv w 31 31)/\w'=w.alloc (.cells (rowsK.flatMap rowCells).toArray 324):=by
 go_enter func265,ntmps265;go_wp2_with fail;go_ret;exact⟨rfl,congrArg (λc=>w.alloc (bw c 324)) (by kernel_rfl)⟩
theorem tZ:∀p∈rowsK,(p.2.flatMap enc).length<=1000000:=by decide+kernel
theorem ot(c:Nat)(l m:List (Bs×List Nat))(h:rowIn c l=Y):rowIn c (l++m)=rowIn c m:=by
 induction l with
 |nil=>rfl
 |cons p l ih=>
  obtain⟨s,q⟩:=p;rw[List.cons_append];unfold rowIn at h ⊢;by_cases hc:q.contains c=true
  .rw[if_pos hc]at h;cases h
  rw[if_neg hc]at h ⊢;exact(ih h).trans (by cases m<;>rfl)
theorem rG(k:Nat)(h:k<31):((rowsK.flatMap rowCells).toArray)[k*2]?=X (S (rowsK.getD k ([],[])).1)/\((rowsK.flatMap rowCells).toArray)[k*2+1]?=X (S ((rowsK.getD k ([],[])).2.flatMap enc)):=by
 have a:k<rowsK:=h;have b:=cE rowCells 2 (λ_=>rfl) rowsK k a 0 (by omega);have c:=cE rowCells 2 (λ_=>rfl) rowsK k a 1 (by omega);rw[cu,cs a];simp only[List.getElem?_toArray];exact⟨b,c⟩
theorem ut(c:Nat)(w:cj)(_hc:c<=1114111):cx prog 202 #[J bt c] w λe w'=>e=bd (S ((rowIn c rowsK).getD []))/\Bw w w':=by
 have H:=Z (wt w);obtain⟨r,I⟩:=Qe ((rowIn c rowsK).getD []);rw[I];have V:=Z I;clear I;obtain⟨T,z⟩:=Qe w.heap.size;obtain⟨w1,o⟩:=Qe (w.alloc (.cells (rowsK.flatMap rowCells).toArray 324));have a3:Bw w w1:=by rw[<- o];exact(cd _ w).alloc (bO _) _
 have a2:w1.heap[T]?=X (.cells (rowsK.flatMap rowCells).toArray 324 (0,0)):=by rw[<- o,<- z];exact cb w _
 rw[o,z]at H;have g:=Z a3;have a0:=Z a2;clear o z a3 a2;go_enter func202,ntmps202;go_upto_region 3 with(go_at_call 265;(refine cc H.o ?_;rintro e wx⟨rfl,M⟩;have M:=M.symm;subst M))
 go_loopw [4] (λi wr=>∃k:Nat,k<=31/\i=J U k/\Hid (rowIn c (rowsK.take k)=Y)/\Hid (Bw w1 wr)) (λi _=>31-(intOf i).toNat)
 exact⟨0,cl _,rfl,rfl,cd _ _⟩;obtain⟨k,hk,rfl,s,f⟩:=hrel;by_cases hlt:k<31;rotate_left
 .have ax:k=31:=by omega
  subst ax;have d:r=[]:=by rw[<- V.o];have:=s.o;rw[ca (show rowsK.length<=31 from bO _)]at this;rw[this];rfl
  have t:=Z d;clear d;go_wp2_with fail;go_ret;exact⟨by rw[t.o];rfl,g.o.trans (f.o.mono g.o.size)⟩
 obtain⟨u,v⟩:=rG k hlt;obtain⟨p,m⟩:=Qe (rowsK.getD k ([],[]));have G:p∈rowsK:=by rw[<- m,cu,cs (show k<rowsK from hlt)];exact cm _
 have L:rowsK.take (k+1)=rowsK.take k++[p]:=by rw[bY (show k<rowsK from hlt),<- m,cu,cs (show k<rowsK from hlt)];rfl
 have a7:rowIn c (rowsK.take (k+1))=rowIn c [p]:=by rw[L];exact ot c _ _ s.o
 have a8:rowIn c rowsK=rowIn c (p::rowsK.drop (k+1)):=by
  conv=>lhs;rw[<- gf (k+1) rowsK,L,em]
  exact ot c _ _ s.o
 rw[m]at u v;obtain⟨O,a⟩:=p;have l:=mg _ G;have F:=tZ _ G;dsimp only at l F;have C:∀W:cj,Bw w1 W->W.cell? ⟨T,k*2,Y⟩=X (S O)/\W.cell? ⟨T,k*2+1,Y⟩=X (S (a.flatMap enc)):=λW hW=>by have hv:=(hW.block T (af a0.o)).trans a0.o;exact⟨(ab hv _).trans u,(ab hv _).trans v⟩
 have ac:=Z C;obtain⟨aS,W2,D,a4,aC,A⟩:=om wr (a.flatMap enc) a l F;have a5:Bw w1 W2:=f.trans (a4.mono f.size);have a9:=gg (a.flatMap enc);rw[l]at a9;obtain⟨a1,hX⟩:=Qe wr.heap.size;rw[hX]at D A;obtain⟨n,hn⟩:=Qe a.length;have aT:n<=1000000:=by omega
 rw[hn]at D;have R:=Z hn;have q:=Z a5;have aa:=Z A;have al:=Z a7;have ao:=Z a8;have c0:=(C wr f.o).2;have i1:(k:Int)<31:=by omega
 clear u v m G L a7 a8 C a4 aC a5 hX hn F l A a9;go_upto_region 7 with fail;clear c0 D i1;go_loop [6] (λi=>∃j:Nat,j<=n/\i=J U j/\Hid (∀x∈a.take j,x≠c)) (λi=>n-(intOf i).toNat)
 case atStart=>exact⟨0,cl _,rfl,by unfold Hid;simp⟩
 obtain⟨j,hj,rfl,Q⟩:=hrel;by_cases hjn:j<n;rotate_left
 .have av:j=n:=by omega
  subst av;have a6:rowIn c [(O,a)]=Y:=by unfold rowIn;rw[if_neg (λh=>Q.o c (by rw[ca (by rw[R.o];exact bO _)];exact List.contains_iff_mem.1 h) rfl)];rfl
  have ad:Hid (rowIn c (rowsK.take (k+1))=Y):=al.trans a6;clear a6;go_wp2_with fail;go_roundw;exact⟨k+1,hlt,by go_num,ad.o,q.o⟩;simp[intOf];omega
 have E:j<a:=by rw[R.o];exact hjn
 have c1:=aa j E;have i1:(j:Int)<n:=by omega
 by_cases hcc:a[j]=c
 .rw[hcc]at c1;have d:r=O:=by rw[<- V.o,ao.o];unfold rowIn;rw[if_pos (List.contains_iff_mem.2 (hcc▸cm E))];rfl
  have c2:=(ac W2 q.o).1;have t:=Z d;clear d hcc;have i2:(k:Int)<31:=by omega
  go_wp2_with fail;go_ret;exact⟨by rw[t.o];rfl,g.o.trans (q.o.mono g.o.size)⟩
 have ay:¬((a[j]:Nat):Int)=(c:Int):=by omega
 obtain⟨y,N⟩:=Qe (a[j]);rw[N]at c1 ay;have HY:=Z N;have az:¬y=c:=by omega
 have au:=Z az;clear N hcc;go_wp2_with fail;go_round
 case rel=>
  refine⟨j+1,hjn,by go_num,λx b=>?_⟩;rw[bY E,HY.o]at b;rcases List.mem_append.1 b with b|b
  .exact Q x b
  rw[fb]at b;rw[b];exact au.o
 simp[intOf];omega
theorem kG(W:cj)(n:Nat):(convert 226 9 (bv W 1 1)).run prog (W.alloc (bw #[J bt n] 21))=.ok (S (enc n)) (W.alloc (bw #[J bt n] 21)):=by
 have a:(loadCells W 1).run prog (W.alloc (bw #[J bt n] 21))=.ok #[J bt n] (W.alloc (bw #[J bt n] 21)):=by simp[loadCells,loadCellsFrom,go_sem]
 simp[convert,run_underlying underlying226,run_underlying underlying9,run_underlying underlying21,Conv.runesToString,a];exact ByteArray.ext (by simp[enc,m8])
theorem wP:∀p∈rowsK,p.1≠[]:=by decide+kernel
theorem rF(c:Nat):∀l:List (Bs×List Nat),(∀p∈l,p.1≠[])->((rowIn c l).getD []=[]↔rowIn c l=Y)
 |[],_=>⟨λ_=>rfl,λ_=>rfl⟩
 |(s,q)::l,h=>by
  unfold rowIn
  by_cases hc:q.contains c=true
  .rw[if_pos hc]
   exact⟨λe=>absurd e (h _ gz),λe=>by cases e⟩
  .rw[if_neg hc]
   exact rF c l λp a=>h p (gx _ a)
theorem uG(c:Nat)(r:Bs)(a:(rowIn c rowsK).getD []=r):
 ((97<=c/\c<=122∨48<=c/\c<=57)->foldR c=enc c)/\(65<=c/\c<=90->foldR c=enc (c+32))/\(¬(97<=c/\c<=122∨48<=c/\c<=57)/\¬(65<=c/\c<=90)->(c<128->foldR c=[32])/\(128<=c->
   ((768<=c/\c<=879∨65056<=c/\c<=65071)->foldR c=[])/\(¬(768<=c/\c<=879∨65056<=c/\c<=65071)->(r≠[]->foldR c=r)/\(r=[]->(c=962->foldR c=enc 963)/\(c≠962->
     ((945<=c/\c<=969∨1072<=c/\c<=1103)->foldR c=enc c)/\(¬(945<=c/\c<=969∨1072<=c/\c<=1103)->((913<=c/\c<=937/\c≠930∨1040<=c/\c<=1071)->foldR c=enc (c+32))/\(¬(913<=c/\c<=937/\c≠930∨1040<=c/\c<=1071)->foldR c=[32]))))))):=by
 refine⟨λh=>by unfold foldR;rw[if_pos h],λh=>by unfold foldR;rw[if_neg (by omega),if_pos h],λ⟨g,i⟩=>⟨λj=>by unfold foldR;rw[if_neg g,if_neg i,if_pos j],λj=>?_⟩⟩
 have key:foldR c=(if(768<=c/\c<=879)∨(65056<=c/\c<=65071)then[]else match rowIn c rowsK with
  |some s=>s
  |none=>if c=962 then enc 963
   else if(945<=c/\c<=969)∨(1072<=c/\c<=1103)then enc c
   else if(913<=c/\c<=937/\c≠930)∨(1040<=c/\c<=1071)then enc (c+32)
   else[32]):=by
  unfold foldR
  rw[if_neg g,if_neg i,if_neg (by omega)]
  rfl
 refine⟨λh=>by rw[key,if_pos h],λh=>⟨λhn=>?_,λhn=>?_⟩⟩
 .rw[key,if_neg h];cases e:rowIn c rowsK with
  |none=>rw[e]at a;exact absurd a.symm hn
  |some s=>rw[e]at a;exact a
 rw[hn]at a;have e:=(rF c rowsK wP).1 a;rw[e,if_neg h]at key;refine⟨λb=>by rw[key,if_pos b],λb=>⟨λd=>by rw[key,if_neg b,if_pos d],λd=>⟨λf=>by rw[key,if_neg b,if_neg d,if_pos f],λf=>by rw[key,if_neg b,if_neg d,if_neg f]⟩⟩⟩
theorem nJ(c:Nat)(d f g i j l a m n:Bool)(h:(d=true↔945<=c)/\(f=true↔c<=969)/\(g=true↔1072<=c)/\(i=true↔c<=1103)/\(j=true↔913<=c)/\(l=true↔c<=937)/\(a=true↔c=930)/\(m=true↔1040<=c)/\(n=true↔c<=1071)):
 decide ((945:Int)<=c)=d/\decide ((c:Int)<=969)=f/\decide ((1072:Int)<=c)=g/\decide ((c:Int)<=1103)=i/\decide ((913:Int)<=c)=j/\decide ((c:Int)<=937)=l/\decide ((c:Int)=930)=a/\((c:Int)==930)=a/\((c:Int)!=930)= !a/\decide ((1040:Int)<=c)=m/\decide ((c:Int)<=1071)=n:=by
 obtain⟨q,r,s,t,u,v,o,w,x⟩:=h;have k:∀(p:Prop)[Decidable p](b:Bool),(b=true↔p)->decide p=b:=λp _ b h=>by cases b<;>simp_all
 have e:((c:Int)==930)=a:=by rw[Bool.eq_iff_iff,beq_iff_eq,o];omega
 exact⟨k _ _ (by rw[q];omega),k _ _ (by rw[r];omega),k _ _ (by rw[s];omega),k _ _ (by rw[t];omega),k _ _ (by rw[u];omega),k _ _ (by rw[v];omega),k _ _ (by rw[o];omega),e,by rw[bne,e],k _ _ (by rw[w];omega),k _ _ (by rw[x];omega)⟩
theorem Ai(c:Nat)(w:cj)(l:c<=1114111):cx prog 146 #[J bt c] w λe w'=>e=bd (S (foldR c))/\Bw w w':=by
 have H:=Z (λW=>ut c W l);obtain⟨r,k⟩:=Qe ((rowIn c rowsK).getD []);rw[k]at H;have h:=Z (uG c r k);obtain⟨f,j⟩:=Qe (foldR c);rw[j]at h;rw[j];clear k j;have s:IntKind.i32.wrap ((c:Int)+32)=((c+32:Nat):Int):=(IntWalk.i32_in _ (by omega)).trans (by omega);have t:=kG;have u:∀W:cj,(convert 226 9 (bv W 1 1)).run prog (W.alloc (bw #[J bt ((c:Int)+32)] 21))=.ok (S (enc (c+32))) (W.alloc (bw #[J bt ((c:Int)+32)] 21)):=λW=>kG W (c+32);have v:∀W:cj,(convert 226 9 (bv W 1 1)).run prog (W.alloc (bw #[J bt 963] 21))=.ok (S (enc 963)) (W.alloc (bw #[J bt 963] 21)):=λW=>kG W 963;by_cases k1:97<=c/\c<=122∨48<=c/\c<=57
 .have a:Hid (f=enc c):=h.1 k1;go_enter func146,ntmps146;go_wp2_with fail;all_goals(go_ret;exact⟨bq (by rw[a.o];rfl),(cd _ w).alloc (bO _) _⟩)
 by_cases k2:65<=c/\c<=90
 .have a:Hid (f=enc (c+32)):=h.2.1 k2;go_enter func146,ntmps146;go_wp2_with fail;all_goals(go_ret;exact⟨bq (by rw[a.o];rfl),(cd _ w).alloc (bO _) _⟩)
 have h:=Z (h.2.2 ⟨k1,k2⟩);by_cases k3:c<128
 .have a:Hid (f=[32]):=h.1 k3;go_enter func146,ntmps146;go_wp2_with fail;all_goals(go_ret;exact⟨bq (by rw[a.o];rfl),cd _ w⟩)
 have h:=Z (h.o.2 (by omega));by_cases k4:768<=c/\c<=879∨65056<=c/\c<=65071
 .have a:Hid (f=[]):=h.1 k4;go_enter func146,ntmps146;go_wp2_with fail;all_goals(go_ret;exact⟨bq (by rw[a.o];rfl),cd _ w⟩)
 have h:=Z (h.2 k4);by_cases hr0:r=[];rotate_left
 .have a:Hid (f=r):=h.1 hr0;have x:(r==[])=false:=by simpa using hr0
  go_enter func146,ntmps146;go_wp2_with (go_at_call 202;(refine cc (H.o _) ?_;rintro e w1⟨rfl,b⟩))
  all_goals(go_ret;exact⟨bq (by rw[a.o];rfl),b⟩)
 have i:=Z (h.2 hr0);clear h;subst hr0;by_cases k5:c=962
 .have a:Hid (f=enc 963):=i.1 k5;have m:decide ((c:Int)=962)=true:=by simp;omega
  have n:((c:Int)==962)=true:=by simp;omega
  have o:decide (c=962)=true:=by simp;omega
  have p:(c==962)=true:=by simp;omega
  have z:128<=c/\c<=1000/\900<=c:=by omega
  have q:=Z k5;clear k5;go_enter func146,ntmps146;go_wp2_with (go_at_call 202;(refine cc (H.o _) ?_;rintro e w1⟨rfl,b⟩))
  all_goals(go_ret;exact⟨bq (by rw[a.o];rfl),b.alloc b.size _⟩)
 have i:=Z (i.2 k5);have y:¬(c:Int)=962:=by omega
 have m:decide ((c:Int)=962)=false:=by simp;omega
 have n:((c:Int)==962)=false:=by simp;omega
 have o:decide (c=962)=false:=by simp;omega
 have p:(c==962)=false:=by simp;omega
 go_enter func146,ntmps146;go_upto_region 14 with(go_at_call 202;(refine cc (H.o _) ?_;rintro e w1⟨rfl,b⟩))
 all_goals
  rcases(show(0<=c/\c<=912)∨(913<=c/\c<=929)∨(930<=c/\c<=930)∨(931<=c/\c<=937)∨(938<=c/\c<=944)∨(945<=c/\c<=969)∨(970<=c/\c<=1039)∨(1040<=c/\c<=1071)∨(1072<=c/\c<=1103)∨(1104<=c/\c<=1200000) by omega)with g|g|g|g|g|g|g|g|g|g
  .have a:Hid (f=[32]):=((i.o.2 (by omega)).2 (by omega))
   have d:=nJ c false true false true false true false false true (by simp;omega)
   clear g
   go_wp2_with fail
   go_ret
   exact⟨bq (by rw[a.o];rfl),b⟩
  .have a:Hid (f=enc (c+32)):=((i.o.2 (by omega)).1 (by omega))
   have d:=nJ c false true false true true true false false true (by simp;omega)
   clear g
   go_wp2_with fail
   go_ret
   exact⟨bq (by rw[a.o];rfl),b.alloc b.size _⟩
  .have a:Hid (f=[32]):=((i.o.2 (by omega)).2 (by omega))
   have d:=nJ c false true false true true true true false true (by simp;omega)
   clear g
   go_wp2_with fail
   go_ret
   exact⟨bq (by rw[a.o];rfl),b⟩
  .have a:Hid (f=enc (c+32)):=((i.o.2 (by omega)).1 (by omega))
   have d:=nJ c false true false true true true false false true (by simp;omega)
   clear g
   go_wp2_with fail
   go_ret
   exact⟨bq (by rw[a.o];rfl),b.alloc b.size _⟩
  .have a:Hid (f=[32]):=((i.o.2 (by omega)).2 (by omega))
   have d:=nJ c false true false true true false false false true (by simp;omega)
   clear g
   go_wp2_with fail
   go_ret
   exact⟨bq (by rw[a.o];rfl),b⟩
  .have a:Hid (f=enc c):=(i.o.1 (by omega))
   have d:=nJ c true true false true true false false false true (by simp;omega)
   clear g
   go_wp2_with fail
   go_ret
   exact⟨bq (by rw[a.o];rfl),b.alloc b.size _⟩
  .have a:Hid (f=[32]):=((i.o.2 (by omega)).2 (by omega))
   have d:=nJ c true false false true true false false false true (by simp;omega)
   clear g
   go_wp2_with fail
   go_ret
   exact⟨bq (by rw[a.o];rfl),b⟩
  .have a:Hid (f=enc (c+32)):=((i.o.2 (by omega)).1 (by omega))
   have d:=nJ c true false false true true false false true true (by simp;omega)
   clear g
   go_wp2_with fail
   go_ret
   exact⟨bq (by rw[a.o];rfl),b.alloc b.size _⟩
  .have a:Hid (f=enc c):=(i.o.1 (by omega))
   have d:=nJ c true false true true true false false true false (by simp;omega)
   clear g
   go_wp2_with fail
   go_ret
   exact⟨bq (by rw[a.o];rfl),b.alloc b.size _⟩
  .have a:Hid (f=[32]):=((i.o.2 (by omega)).2 (by omega))
   have d:=nJ c true false true false true false false true false (by simp;omega)
   clear g
   go_wp2_with fail
   go_ret
   exact⟨bq (by rw[a.o];rfl),b⟩
attribute [local go_sem] Oper.semAt_some
theorem iT:∀(a:List Nat)(l:Bs),2*(aX a l).length<=a+if l=[]then 1 else 2
 |[],l=>by unfold aX;split<;>simp
 |c::a,l=>by
  have d:=iT a []
  have b:=iT a (l++foldR c)
  rw[if_pos rfl]at d
  unfold aX
  simp only[cz]
  split
  .split<;>simp_all<;>omega
  .by_cases h:l++foldR c=[]
   .rw[if_pos h]at b;split<;>omega
   .rw[if_neg h]at b;split<;>omega
theorem jY(s:Bs)(w:cj)(hs:s.length<=1000000):cx prog 100 #[S s] w λe w'=>∃v,e=bd v/\w'.ownsRow w 9 1 v (wordsR s).length ((wordsR s).map λs=>S s)/\Below w w w':=by
 have hz:=iT (runesR s) [];have a4:=gg s;have a5:=ol s;obtain⟨z,a9⟩:=Qe (wordsR s);obtain⟨d,R⟩:=Qe (runesR s);have a7:aX d []=z:=by rw[<- a9,<- R];rfl
 rw[a9];rw[R]at a4 a5 hz;rw[a7,if_pos rfl]at hz;obtain⟨b8,W2,a2,G,aa,a1⟩:=om w s d R hs;obtain⟨g,m⟩:=Qe w.heap.size;obtain⟨n,hn⟩:=Qe d.length;obtain⟨og,ao⟩:=Qe (W2.heap[g]? );replace G:Below w w W2:=G;rw[m]at a2 G aa a1;rw[m];rw[hn]at a2 a4;have aC:=Z a1;have HN:=Z hn;have b0:=Z a5;have b1:=Z a7;have az:=Z G;have aS:=Z aa;have ac:=Z ao;have bc:n<=1000000:=by omega
 have av:z.length<=500001:=by omega
 have ad:=Z av;clear av a9 R hz a4 a5 a1 hn a7 G aa ao m;go_enter func100,ntmps100;go_wp2_with fail;clear a2;go_loopw [3,4,6] (λv b2 i wr=>∃(k:Nat)(j:List Bs)(c:Bs)(C:Option Addr)(D:Nat),k<=n/\v=bv C j D/\b2=S c/\i=J U k/\Hid (c<=4*k)/\Hid (wr.ownsRow g 9 1 (bv C j D) j (j.map λs=>S s))/\Hid (z=j++aX (d.drop k) c)/\Hid (Below g w wr)/\Hid (wr.heap[g]?=og)/\Hid (g<wr)/\Hid ((gp C j D).ownBlock≠X g)) (λ_ _ i _=>n-(intOf i).toNat)
 case atStart=> refine⟨0,[],[],Y,0,cl _,rfl,rfl,rfl,cl _,cP _ _ _ _,?_,az.o,ac.o,aS.o,by unfold Hid;simp[Value.ownBlock]⟩;exact b1.symm
 obtain⟨k,j,c,C,D,hk,rfl,rfl,rfl,HL,t,o,E,M,l,L⟩:=hrel;by_cases hlt:k<n;rotate_left
 .have b4:k=n:=by omega
  subst b4;rw[c4 (by rw[HN.o];exact bO _)]at o;by_cases hc:c=[]
  .subst hc;have A:z=j:=o.o.trans (by unfold aX;simp);have V:=Z A;clear A;go_wp2_with fail;go_ret;rw[V.o];exact⟨_,rfl,t.o,E.o⟩
  have A:z=j++[c]:=o.o.trans (by unfold aX;simp[hc]);have b3:(c==[])=false:=by simpa using hc
  have H:j.length<=500001:=by have h1:=congrArg dz A;rw[ci]at h1;have:=ad.o;omega
  have V:=Z A;have a0:=Z H;clear A hc H;go_wp2_with (at_builtin;refine uY [S c] (World.ownsRow.alloc t.o _) (fT _ _ _) underlying81 i9 (by have:=l.o;simp;omega) ?_ (hn:=by have:=a0.o;omega);intro v' w6 y m O;obtain⟨ax,ay,rfl⟩:=aw y;have T:=Z y;have F:=Z m;clear y m O)
  go_ret;rw[V.o];refine⟨_,rfl,?_,?_⟩
  .rw[ci,dx];exact T.o
  have x:=l.o;exact(E.o.alloc (fl x) _).grown F.o (by simp;omega) (λq hq=>(t.o.lt q hq).1)
 have N:k<d:=by rw[HN.o];exact hlt
 have al:d.drop k=d[k]::d.drop (k+1):=ej N;obtain⟨r,Q⟩:=Qe (d[k]);have c0:wr.cell? ⟨g,k,Y⟩=X (J bt r):=by rw[gb (a:=⟨g,_,Y⟩) (M.o.trans ac.o.symm),aC.o k N,Q]
 have au:r<=1114111:=by rw[<- Q];exact b0.o _ (cm N)
 have I:=Z (λW=>Ai r W au);rw[al,Q]at o;have a3:=kB r;have a8:aX (r::d.drop (k+1)) c=if foldR r=[32]then(if c=[]then aX (d.drop (k+1)) []else c::aX (d.drop (k+1)) [])else aX (d.drop (k+1)) (c++foldR r):=rfl
 obtain⟨f,hf⟩:=Qe (foldR r);rw[hf]at I a3 a8;have u:=Z a8;have i1:(k:Int)<n:=by omega
 have bb:c.length<=4000000:=by have:=HL.o;omega
 have H:j.length<=500001:=by have h1:=congrArg dz o.o;rw[ci]at h1;have:=ad.o;omega
 have a0:=Z H;clear hf au a8 al Q N H;by_cases hb:f=[32];rotate_left
 .rw[if_neg hb]at u;have b9:(f==[32])=false:=by simpa using hb
  have b5:=Z hb;have g1:¬9223372036854775807<dz c+dz f:=by omega
  clear hb;go_wp2_with (go_at_call 146;(refine cc (I.o _) ?_;rintro e w5⟨rfl,p⟩;have b:=Z p;clear p))
  go_roundw
  case rel=> refine⟨k+1,j,c++f,C,D,hlt,rfl,rfl,by go_num,?_,ap t.o b.o,o.o.trans (by rw[u.o]),E.o.trans (b.o.mono (fl l.o)),(b.o.block g l.o).trans M.o,cy l.o b.o.size,L.o⟩;unfold Hid;rw[ci];have:=HL.o;omega
  simp[intOf];omega
 have b7:=Z a3;subst hb;rw[if_pos rfl]at u;clear a3;by_cases hc:c=[]
 .subst hc;rw[if_pos rfl]at u;go_wp2_with (go_at_call 146;(refine cc (I.o _) ?_;rintro e w5⟨rfl,p⟩;have b:=Z p;clear p))
  go_roundw
  case rel=> refine⟨k+1,j,[],C,D,hlt,rfl,rfl,by go_num,cl _,ap t.o b.o,o.o.trans (by rw[u.o]),E.o.trans (b.o.mono (fl l.o)),(b.o.block g l.o).trans M.o,cy l.o b.o.size,L.o⟩
  simp[intOf];omega
 rw[if_neg hc]at u;have b3:(c==[])=false:=by simpa using hc
 have b6:=Z hc;clear hc
 go_wp2_with (first
  |(go_at_call 146;((with_reducible refine cc (I.o _) ?_);rintro e w5⟨rfl,p⟩;have b:=Z p;clear p))
  |(at_builtin;refine uY [S c] (World.ownsRow.alloc (ap t.o b.o) _) (fT _ _ _) underlying81 i9 (by have:=l.o;have:=b.o.size;simp;omega) ?_ (hn:=by have:=a0.o;omega);intro v' w6 y m O;obtain⟨ax,ay,rfl⟩:=aw y;have T:=Z y;have F:=Z m;have aT:=Z O;clear y m O))
 go_roundw
 case rel=>
  refine⟨k+1,j++[c],[],ax,ay,hlt,by rw[ci];rfl,rfl,by go_num,cl _,?_,?_,?_,?_,?_,?_⟩
  .unfold Hid;rw[ci,dx];exact T.o
  .unfold Hid;rw[em];exact o.o.trans (by rw[u.o];rfl)
  .have a6:=b.size;have x:=l.o;exact E.o.trans ((((b.o.mono (fl x)).alloc (by omega) _).grown F.o (by simp;omega) (λq hq=>((ap t.o b.o).lt q hq).1)))
  .have a6:=b.size;have x:=l.o;exact(F.o.block g (by simp;omega) (λh=>L.o h.symm)).trans ((cg _ _ _ (by omega)).trans ((b.o.block g x).trans M.o))
  .have a6:=b.size;have x:=l.o;have:=F.size;unfold Hid;simp at this;omega
  rcases aT.o with h|h
  .unfold Hid;rw[ci];exactλe=>L.o (h.symm.trans e)
  have a6:=b.size;have x:=l.o;unfold Hid;rw[ci];intro h';have h:=h.symm.trans h';injection h with h
  simp at h;omega
 simp[intOf];omega
attribute [local go_sem] Oper.semAt_some
theorem wW(l:List Bs):((l.map dl).map λa=>a.length+1).sum<=(l.map dz).sum+3*l:=by
 induction l with
 |nil=>simp
 |cons a l ih=> have:=rO a;simp only[er,List.sum_cons,cz]at*;omega
theorem yN(s:Bs)(skip:Nat)(hs:s.length<=1000000)(hk:skip<=1000)(w:cj):cx prog 145 #[S s,skip] w λe w'=>e=bd (S (dG s skip))/\Bw w w':=by
 obtain⟨t,u⟩:=Qe (s.drop skip);have ao:t.length<=1000000:=by rw[<- u,List.length_drop];omega
 have hR:dG s skip=joinR ((wordsR t).map dl):=by unfold dG;rw[u]
 have aT:max (skip:Int) 0=skip:=by omega
 have aS:min (skip:Int) (s.length:Int)=((min skip s.length:Nat):Int):=by omega
 have aC:min skip s.length<=s:=Nat.min_le_right _ _;have ax:s.drop (min skip s.length)=t:=by
  rw[<- u];rcases Nat.le_total skip s.length with h|h
  .rw[Nat.min_eq_left h]
  rw[Nat.min_eq_right h,c4 h,List.drop_length]
 generalize min skip s.length=m at*;have a7:=ef t;have a5:(joinR ((wordsR t).map dl)).length<=10000000:=by have:=jf (wordsR t);have:=fF t;omega
 have O:(((wordsR t).map dl).map λa=>a.length+1).sum<=100000000000:=by have:=wW (wordsR t);have:=fF t;omega
 have Q:∀x∈wordsR t,x.length<=1000000000:=λx y=>by have:=gR t x y;omega
 have D:=Z (λw=>jY t w ao);rw[hR];obtain⟨c,R⟩:=Qe (wordsR t);rw[R]at a7 a5 D O Q;rw[R];obtain⟨N,G⟩:=Qe c.length;rw[G]at D a7;have l:=Z G;have ac:=Z O;have ad:=Z Q;clear hR u a5 R G O Q;go_enter func145,ntmps145;go_wp2_with (go_at_call 100;(refine cc (D.o _) ?_;rintro e w1⟨v,rfl,I,n⟩;obtain⟨T,V,rfl⟩:=aw I;have d:=Z I;have f:=Z n;clear I n))
 go_loopw [6] (λi wr=>∃k:Nat,k<=N/\i=J U k/\Hid (wr.ownsRow w 9 1 (bv T N V) N (((c.take k).map dl++c.drop k).map λs=>S s))/\Hid (Bw w wr)) (λi _=>N-(intOf i).toNat)
 exact⟨0,cl _,rfl,d.o,f.o⟩;obtain⟨k,az,rfl,d,f⟩:=hrel;by_cases hlt:k<N;rotate_left
 .have al:k=N:=by omega
  subst al;rw[ca (by rw[l.o];exact bO _),c4 (by rw[l.o];exact bO _),e5]at d;have L:=aM (aD d.o (cl _));rw[<- l.o,show c=(c.map dl).length by simp]at L;have HJ:=Z (sh _ (c.map dl) _ wr L (by have:=l.o;simp;omega) ac.o);clear L;rw[dy,l.o]at HJ;go_wp2_with (go_at_call 148;(refine cc HJ.o ?_;rintro e W⟨rfl,rfl⟩))
  go_ret;exact⟨rfl,f.o⟩
 have q:k<c:=by rw[l.o];exact hlt
 have p:((c.take k).map dl++c.drop k)[k]?=X c[k]:=by rw[List.getElem?_append_right (by simp;omega),dy,dk,show k-min k c.length=0 by omega,List.getElem?_drop,Nat.add_zero,cs q]
 have M:((c.take k).map dl++c.drop k).set k (dl c[k])=(c.take (k+1)).map dl++c.drop (k+1):=by rw[gi _ _ (by simp;omega),dy,dk,show k-min k c.length=0 by omega,ej q,bY q,dx,List.set_cons_zero,em];rfl
 obtain⟨g,o,r,hv,a3,a4,_⟩:∃g o r,(gp T N V)=bv (X ⟨g,0,Y⟩) N o/\w<=g/\wr.heap[g]?=X (bw r 9)/\True:=by
  rcases d.2 with⟨h,h0⟩|⟨g,o,r,E,F,h3,_⟩
  .omega
  exact⟨g,o,r,E,F,h3,trivial⟩
 obtain⟨rfl,rfl⟩:T=X ⟨g,0,Y⟩/\V=o:=by injection hv with E _ F;exact⟨E,F⟩
 have c0:wr.cell? ⟨g,k,Y⟩=X (S c[k]):=by rw[d.o.cellAt k (by omega),List.getElem?_map,p];rfl
 have au:=Z (af a4);have z:=ad c[k] (cm q);obtain⟨x,y⟩:=Qe (c[k]);rw[y]at c0 M z p;have aa:Hid ((((c.take k).map dl++c.drop k).map λs=>S s)[k]?=X (S x)):=by unfold Hid;rw[List.getElem?_map,p];rfl
 have a9:=Z a3;have a0:=Z p;have A:=Z (λw=>mN x w z);have HU:=Z (λw=>um x w z);have a2:=Z M;have i1:(k:Int)<N:=by omega
 clear p M y q hv a3 a4 z;obtain⟨b,n⟩:=Qe (x.all digitB);rw[n]at A;have a6:dl x=if b=true then A9 x else x:=by unfold dl ea;rw[n];rfl
 have a1:=Z a6;clear a6 n;cases b
 .go_wp2_with (go_at_call 144;(refine cc (A.o _) ?_;rintro e W⟨rfl,rfl⟩))
  go_roundw
  case rel=>
   refine⟨k+1,hlt,by go_num,?_,f.o⟩;have e:((c.take k).map dl++c.drop k).set k x=(c.take k).map dl++c.drop k:=by
    apply List.ext_getElem?;intro j;rw[List.getElem?_set];split
    .next h=>
     subst h;rw[a0.o,if_pos (List.getElem?_eq_some_iff.1 a0.o).1]
    rfl
   unfold Hid;rw[<- a2.o,a1.o,if_neg (by decide),e];exact d.o
  simp[intOf];omega
 go_wp2_with (first
  |(go_at_call 144;((with_reducible refine cc (A.o _) ?_);rintro e W⟨rfl,rfl⟩))
  |(go_at_call 201;((with_reducible refine cc (HU.o _) ?_);rintro e W⟨rfl,H⟩;have C:=Z (ap d.o H);have ay:=C.o.frozenAt k;have av:=(C.o.cellAt k (by omega)).trans aa.o;have a8:=Z H;clear H)))
 go_roundw
 case rel=> refine⟨k+1,hlt,by go_num,?_,(f.trans (a8.mono f.size)).setCell a9.o _⟩;unfold Hid;rw[<- a2.o,a1.o,if_pos trivial,List.map_set];exact(C.stored k (S (A9 x))).1
 simp[intOf];omega
theorem wk(a:Bs)(l:List cH):((ba l a).map λs=>s.length+1).sum<=(l.flatMap aV).length:=by
 induction l with
 |nil=>simp[ba]
 |cons s l ih=>
  rw[c5,ci];unfold ba at*;rw[List.filter_cons];have e:(aV s).length=s.text+2:=by simp[aV]
  split
  .simp only[er,List.sum_cons];omega
  omega
theorem xE(f:ag)(a:Bs):((ba f.subs a).map λs=>s.length+1).sum<=(fieldBytes f).length:=by
 have b:=wk a f.subs;simp only[fieldBytes,ci]at*;omega
theorem yG(a i x:Bs)(d:cp)(f:List cH)(g:Bs)(w:cj)(Q:aE 0 w w d f)(hn:f.length<=1000000)(N:((ba f g).map λs=>s.length+1).sum<=1000000)(hc:g.length<=1000):
 cx prog 101 #[.agg #[S a,S i,S x,d],S g] w λe w'=>e=bd (S (textS f g))/\Bw w w':=by
 have HS:=Z Q;have HL:=Z N;have H:=Z (λc w=>BN g c w (by omega));obtain⟨z,A,rfl,_⟩:=Q;clear N;go_enter func101,ntmps101;go_wp2_with fail;go_loopw [5,6] (λv j wr=>∃(k:Nat)(p:Option Addr)(r:Nat),k<=f/\j=J U k/\v=.slice p (ba (f.take k) g).length r/\Hid (wr.ownsRow (w.heap.size+1) 9 1 (.slice p (ba (f.take k) g).length r) (ba (f.take k) g).length ((ba (f.take k) g).map λs=>S s))/\Hid (Bw w wr)/\Hid (w.heap.size+1<=wr)/\Hid (wr.heap[w.heap.size]?=X (bw #[S a,S i,S x,bv z f A] 123 (0,0)))) (λ_ j _=>f-(intOf j).toNat)
 exact⟨0,Y,0,cl _,rfl,rfl,cP _ _ _ _,(cd _ w).alloc (bO _) _,by unfold Hid;simp,cb _ _⟩;obtain⟨k,p,r,hk,rfl,rfl,n,o,y,t⟩:=hrel;have b3:wr.cell? ⟨w,3,Y⟩=X (bv z f A):=(ab t.o 3).trans rfl;by_cases hlt:k<f;rotate_left
 .have E:ba (f.take k) g=ba f g:=by rw[ca (by omega)]
  rw[E]at n;rw[E];have D:=eX f g;have W:=Z (sh _ (ba f g) _ wr (aM (aD n.o (cl _))) (by omega) (gq HL.o (by omega)));clear E;have a9:Hid (textS f g=joinR (ba f g)):=rfl;go_wp2_with (go_at_call 148;(refine cc W.o ?_;rintro e V⟨rfl,rfl⟩))
  go_ret;exact⟨rfl,o.o⟩
 have R:aE 0 w wr (gp z f A) f:=HS.kept (aW o.o (bO _));obtain⟨b,ac,aa,hv,a2,a3,c0,c1⟩:=R.sub k hlt;cases hv;have l:=Z (iU f g k hlt);clear R;have D:(ba (f.take k) g).length<=k:=by have:=eX (f.take k) g;rw[dk]at this;omega
 have a0:=Z D;have i1:(k:Int)<f:=by omega
 clear D;generalize f[k].code=C at*;generalize f[k].text=T at*;generalize ba (f.take k) g=L at*;have a7:=Z a2;have a8:=Z a3;by_cases hC:g.contains C=true;rotate_left
 .have m:=Z (H C);have I:g.contains C=false:=by simpa using hC
  rw[I]at m;rw[if_neg hC,e5]at l;clear hC I;go_wp2_with (go_at_call 147;(refine cc (m.o _) ?_;rintro e V⟨rfl,rfl⟩))
  go_roundw;exact⟨k+1,p,r,by omega,by go_num,by rw[l.o],by unfold Hid;rw[l.o];exact n.o,o.o,y.o,t.o⟩;simp[intOf];omega
 have m:=Z (H C);rw[hC]at m;rw[if_pos hC]at l;clear hC
 go_wp2_with (first
  |(go_at_call 147;((with_reducible refine cc (m.o _) ?_);rintro e V⟨rfl,rfl⟩))
  |(at_builtin;refine uY [S T] (World.ownsRow.alloc n.o _) (fT _ _ _) underlying81 i9 (by have:=y.o;simp;omega) ?_ (hn:=by have:=a0.o;omega);intro v' w6 F M a4;obtain⟨a5,a6,rfl⟩:=aw F;have a1:=Z F;have u:=Z M;clear F M a4))
 go_roundw
 case rel=>
  have hz:=y.o;have O:=λq G=>(n.lt q G);refine⟨k+1,a5,a6,by omega,by go_num,by rw[l.o,ci];rfl,?_,?_,?_,?_⟩
  .unfold Hid;rw[l.o,ci,dx];exact a1.o
  .exact(o.o.alloc (by omega) _).grown u.o (by simp;omega) (λq G=>by have:=(O q G).1;omega)
  .have:=u.size;unfold Hid;simp at this;omega
  exact(u.o.block _ (by simp;omega) (λh=>by have:=(O _ h.symm).1;omega)).trans ((cg _ _ _ (by omega)).trans t.o)
 simp[intOf];omega
theorem sH(a:List ag)(b:Bs)(k:Nat)(h:k<a):firstF (a.take (k+1)) b=(firstF (a.take k) b).or (if a[k].tag=b then X a[k]else Y):=by
 unfold firstF;rw[bY h,List.find?_append];congr 1
 by_cases h:a[k].tag=b<;>simp[h]
theorem sI(a:List ag)(b:Bs)(k:Nat)(f:ag)(h:firstF (a.take k) b=X f):firstF a b=X f:=by
 unfold firstF at*;conv=>lhs;rw[<- gf k a,List.find?_append,h]
 rfl
theorem jN(k l:UInt8)(x:cp)(f:List ag)(q:Bs)(w:cj)(z:ah 0 w w x f)(a4:f.length<=1000000):
 cx prog 99 #[.agg #[J bk k,J bk l,x],S q] w λe w'=>(∃v,e=bd (.tuple #[v,bl (firstF f q).isSome])/\gM w w' (firstF f q) v)/\Bw w w':=by
 obtain⟨g,u⟩:=Qe ((w.alloc (bw #[J bk k,J bk l,x] 62)).alloc (bw #[S [],S [],S [],bv Y 0 0] 123));have a5:g.heap.size=w+2:=by rw[<- u];simp
 have N:Bw w g:=by rw[<- u];exact((cd _ w).alloc (bO _) _).alloc (by simp) _
 have M:g.heap[w.heap.size]?=X (bw #[J bk k,J bk l,x] 62 (0,0)):=by rw[<- u,cg _ _ _ (by simp)];exact cb w _
 have m:g.heap[w.heap.size+1]?=X (bw #[S [],S [],S [],bv Y 0 0] 123 (0,0)):=by rw[<- u];have:=cb (w.alloc (bw #[J bk k,J bk l,x] 62)) (bw #[S [],S [],S [],bv Y 0 0] 123);rwa[cq]at this
 have a2:g.cell? ⟨w,2,Y⟩=X x:=by rw[ab M];rfl
 have z0:=ae m 0;have z1:=ae m 1;have z2:=ae m 2;have z3:=ae m 3;have y0:g.cell? ⟨w.heap.size+1,0,Y⟩=X (S []):=by rw[ab m];rfl
 have y1:g.cell? ⟨w.heap.size+1,1,Y⟩=X (S []):=by rw[ab m];rfl
 have y2:g.cell? ⟨w.heap.size+1,2,Y⟩=X (S []):=by rw[ab m];rfl
 have y3:g.cell? ⟨w.heap.size+1,3,Y⟩=X (bv Y 0 0):=by rw[ab m];rfl
 have HS:=Z z;have r:=Z N;obtain⟨n,hn⟩:=Qe f.length;obtain⟨R,V,rfl⟩:∃R V,x=bv R n V:=by obtain⟨_,_,_,a,c,h,_⟩:=z;exact⟨a,c,hn▸h⟩
 have E:=Z hn;clear M m z N hn;go_enter func99,ntmps99;go_wp2_with fail;go_loop [6] (λi=>∃j:Nat,j<=n/\i=J U j/\Hid (firstF (f.take j) q=Y)) (λi=>n-(intOf i).toNat)
 case atStart=>exact⟨0,cl _,rfl,rfl⟩
 obtain⟨j,hj,rfl,C⟩:=hrel;by_cases hlt:j<n;rotate_left
 .have a1:j=n:=by omega
  subst a1;have s:=C.o;rw[ca (by rw[E.o];exact bO _)]at s;have y:=Z s;clear s;go_wp2_with fail;refine ft (v:=.tuple #[.agg #[S [],S [],S [],bv Y 0 0],bl false]) (by rw[bm rfl];go_simp) rfl ?_;rw[y.o];exact⟨⟨_,rfl,bv Y 0 0,rfl,_,_,rfl,λh=>absurd rfl h⟩,(((r.o.setCell (p:=⟨w.heap.size+1,0,Y⟩) (by simp) _).setCell (p:=⟨w.heap.size+1,1,Y⟩) (by simp) _).setCell (p:=⟨w.heap.size+1,2,Y⟩) (by simp) _).setCell (p:=⟨w.heap.size+1,3,Y⟩) (by simp) _⟩
 have Q:j<f:=by rw[E.o];exact hlt
 obtain⟨b,a6,a3,d,hv,_,t,G,c1,c2,H,A⟩:=HS.field j Q;injection hv with g1 g2 g3
 subst g1 g3;clear g2;have o:=sH f q j Q;rw[C.o]at o;have e0:=((aq r.o).1 b _ t).trans G;have e1:=((aq r.o).1 b _ t).trans c1;have e2:=((aq r.o).1 b _ t).trans c2;have e3:=((aq r.o).1 b _ t).trans H;have W:Hid (gM w w (X f[j]) (.agg #[S f[j].tag,S f[j].ind,S f[j].data,d])):=⟨d,rfl,A⟩;obtain⟨F,L,rfl,_⟩:=id A;clear G c1 c2 H A t;generalize f[j].subs=ss at*;generalize f[j].tag=T at*;generalize f[j].ind=I at*;generalize f[j].data=D at*;generalize f[j]=FF at*;have i1:(j:Int)<n:=by omega
 by_cases hT:T=q
 .subst hT;rw[if_pos rfl]at o;have s:=sI f T (j+1) FF o;have y:=Z s;have i2:(T==T)=true:=by simp
  clear o s;go_wp2_with fail;refine ft (v:=.tuple #[.agg #[S T,S I,S D,bv F ss L],bl true]) (by rw[bm rfl];go_simp) rfl ?_;have O:=(((r.o.setCell (p:=⟨w.heap.size+1,0,Y⟩) (by simp) (S T)).setCell (p:=⟨w.heap.size+1,1,Y⟩) (by simp) (S I)).setCell (p:=⟨w.heap.size+1,2,Y⟩) (by simp) (S D)).setCell (p:=⟨w.heap.size+1,3,Y⟩) (by simp) (bv F ss L);rw[y.o];exact⟨⟨_,rfl,gM.up W.o O⟩,O⟩
 rw[if_neg hT]at o;have i2:(T==q)=false:=by simpa using hT
 have a0:=Z o;clear o hT;go_wp2_with fail;go_round
 case rel=>exact⟨j+1,hlt,by go_num,a0.o⟩
 simp[intOf];omega
theorem wV{a:List ag}(d:br a)(b c:Bs):((firstF a b).getD zeroF).subs.length<=1000000/\((ba ((firstF a b).getD zeroF).subs c).map λs=>s.length+1).sum<=1000000:=by
 cases h:firstF a b with
 |none=>exact⟨by decide,by simp[zeroF,ba]⟩
 |some f=> have:=d.2 f (eY h);exact⟨gq (cr f) this,gq (xE f c) this⟩
theorem jv{b:List ag}(k:br b)(c a:Bs)(f:a.length<=1000)(g:ag)(j:(firstF b c).getD zeroF=g)(d:cp)(W:cj)(i:aE 0 W W d g.subs):
 cx prog 101 #[.agg #[S g.tag,S g.ind,S g.data,d],S a] W λe w'=>e=bd (S (textF (firstF b c) a))/\Bw W w':=by
 have h:=wV k c a;rw[j7];rw[j]at h ⊢;exact yG _ _ _ d g.subs a W i h.1 h.2 f
theorem lV(k l:UInt8)(x:cp)(m:List ag)(w:cj)(hs:ah 0 w w x m)(L:br m):
 cx prog 98 #[.agg #[J bk k,J bk l,x]] w λe w'=>e=bd (S (aN m))/\Bw w w':=by
 obtain⟨s,G⟩:=Qe (w.alloc (bw #[J bk k,J bk l,x] 62));have a3:s.heap.size=w+1:=by rw[<- G];simp
 have O:Bw w s:=by rw[<- G];exact(cd _ w).alloc (bO _) _
 have a0:s.cell? w=X (J bk k):=by rw[<- G,c7];rfl
 have a1:s.cell? ⟨w,1,Y⟩=X (J bk l):=by rw[<- G,c7];rfl
 have a2:s.cell? ⟨w,2,Y⟩=X x:=by rw[<- G,c7];rfl
 have E:=Z (jN k l x m [50,52,53] s ((fk hs (bO _) O).mono (bO _) (by omega)) L.1);have HL:=Z (cM L [50,52,53] [97,98]);have A:Hid (aN m=dG (textF (firstF m [50,52,53]) [97,98]) (skI ((firstF m [50,52,53]).getD zeroF).ind)):=by unfold Hid aN;rw[rz];rfl
 have I:=Z (jv L [50,52,53] [97,98] (by decide) _ rfl);have p:=Z O;clear hs L O;unfold gM at E;generalize(firstF m [50,52,53]).isSome=bs at*;generalize textF (firstF m [50,52,53]) [97,98]=T at*;generalize(firstF m [50,52,53]).getD zeroF=g at*;obtain⟨gt,F,gd,gs⟩:=g;have H:Hid (∀(q:Nat)(W:cj),q<=1000->cx prog 145 #[S T,q] W λe w'=>e=bd (S (dG T q))/\Bw W w'):=λq W hq=>yN T q HL.o hq W;change Hid (aN m=dG T (skI F))at A;by_cases hg:(1:Int)<(F.length:Int);rotate_left
 .have D:Hid (aN m=dG T 0):=by
   unfold Hid;rw[A.o];rcases F with _|⟨a,_|⟨c,r⟩⟩
   .rfl
   .rfl
   exact absurd (by simp;omega) hg
  clear A;go_enter func98,ntmps98
  go_wp2_with (first
   |(go_at_call 99;((with_reducible refine cc E.o ?_);rintro e C⟨⟨v,rfl,d,rfl,f⟩,n⟩;obtain⟨M,N,rfl,_⟩:=id f;have z:=Z f;have i:=Z n;clear f n))
   |(go_at_call 101;((with_reducible refine cc (I.o _ _ ?_) ?_);(focus exact(z.o.kept (λk _ t=>cg _ _ _ (cy t i.o.size))).mono (bO _) (by have:=i.o.size;simp;omega));rintro e Q⟨rfl,b⟩;have u:=Z b;clear b))
   |(go_at_call 145;((with_reducible refine cc (H.o 0 _ (by omega)) ?_);rintro e R⟨rfl,o⟩;have y:=Z o;clear o)))
  go_ret;have j:Bw w C:=p.trans (i.mono p.size);have b:=(j.alloc j.size _).trans (u.o.mono (by have:=j.size;simp;omega));exact⟨by rw[D.o];rfl,b.trans (y.o.mono b.size)⟩
 obtain⟨a,c,r,rfl⟩:∃a c r,F=a::c::r:=by
  rcases F with _|⟨a,_|⟨c,r⟩⟩
  .simp at hg
  .simp at hg
  exact⟨a,c,r,rfl⟩
 by_cases f:digitB c=true
 .have D:Hid (aN m=dG T (c.toNat-48)):=by unfold Hid;rw[A.o];rw[lw,if_pos f]
  obtain⟨h1,h2⟩:=c8 f;have t:((c.toNat:Int)-48)=((c.toNat-48:Nat):Int):=by omega
  have h4:c.toNat-48<=9:=by omega
  have V:(48:Int)<=c:=by omega
  have h6:(c.toNat:Int)<=57:=by omega
  clear A f;generalize c.toNat-48=q at*;go_enter func98,ntmps98
  go_wp2_with (first
   |(go_at_call 99;((with_reducible refine cc E.o ?_);rintro e C⟨⟨v,rfl,d,rfl,f⟩,n⟩;obtain⟨M,N,rfl,_⟩:=id f;have z:=Z f;have i:=Z n;clear f n))
   |(go_at_call 101;((with_reducible refine cc (I.o _ _ ?_) ?_);(focus exact(z.o.kept (λk _ t=>cg _ _ _ (cy t i.o.size))).mono (bO _) (by have:=i.o.size;simp;omega));rintro e Q⟨rfl,b⟩;have u:=Z b;clear b))
   |(go_at_call 145;((with_reducible refine cc (H.o q _ (by omega)) ?_);rintro e R⟨rfl,o⟩;have y:=Z o;clear o)))
  go_ret;have j:Bw w C:=p.trans (i.mono p.size);have b:=(j.alloc j.size _).trans (u.o.mono (by have:=j.size;simp;omega));exact⟨by rw[D.o];rfl,b.trans (y.o.mono b.size)⟩
 have D:Hid (aN m=dG T 0):=by unfold Hid;rw[A.o];rw[lw,if_neg f]
 have h1:¬(48<=c.toNat/\c.toNat<=57):=λh=>f (by unfold digitB;simp;omega);clear A f;by_cases h2:48<=c.toNat
 .have V:(48:Int)<=c:=by omega
  have h6:¬(c.toNat:Int)<=57:=by omega
  go_enter func98,ntmps98
  go_wp2_with (first
   |(go_at_call 99;((with_reducible refine cc E.o ?_);rintro e C⟨⟨v,rfl,d,rfl,f⟩,n⟩;obtain⟨M,N,rfl,_⟩:=id f;have z:=Z f;have i:=Z n;clear f n))
   |(go_at_call 101;((with_reducible refine cc (I.o _ _ ?_) ?_);(focus exact(z.o.kept (λk _ t=>cg _ _ _ (cy t i.o.size))).mono (bO _) (by have:=i.o.size;simp;omega));rintro e Q⟨rfl,b⟩;have u:=Z b;clear b))
   |(go_at_call 145;((with_reducible refine cc (H.o 0 _ (by omega)) ?_);rintro e R⟨rfl,o⟩;have y:=Z o;clear o)))
  go_ret;have j:Bw w C:=p.trans (i.mono p.size);have b:=(j.alloc j.size _).trans (u.o.mono (by have:=j.size;simp;omega));exact⟨by rw[D.o];rfl,b.trans (y.o.mono b.size)⟩
 have V:¬(48:Int)<=c:=by omega
 go_enter func98,ntmps98
 go_wp2_with (first
  |(go_at_call 99;((with_reducible refine cc E.o ?_);rintro e C⟨⟨v,rfl,d,rfl,f⟩,n⟩;obtain⟨M,N,rfl,_⟩:=id f;have z:=Z f;have i:=Z n;clear f n))
  |(go_at_call 101;((with_reducible refine cc (I.o _ _ ?_) ?_);(focus exact(z.o.kept (λk _ t=>cg _ _ _ (cy t i.o.size))).mono (bO _) (by have:=i.o.size;simp;omega));rintro e Q⟨rfl,b⟩;have u:=Z b;clear b))
  |(go_at_call 145;((with_reducible refine cc (H.o 0 _ (by omega)) ?_);rintro e R⟨rfl,o⟩;have y:=Z o;clear o)))
 go_ret;have j:Bw w C:=p.trans (i.mono p.size);have b:=(j.alloc j.size _).trans (u.o.mono (by have:=j.size;simp;omega));exact⟨by rw[D.o];rfl,b.trans (y.o.mono b.size)⟩
theorem oE(s:Bs)(k:Nat)(h:k<s):isbnGo (s.drop k)=if digitB s[k]||xB s[k]then s[k]::isbnGo (s.drop (k+1))else if s[k]=32∨s[k]=45 then isbnGo (s.drop (k+1))else[]:=by
 rw[ej h];rfl
theorem vP(s:Bs)(w:cj)(hs:s.length<=1000000):cx prog 96 #[S s] w λe w'=>e=bd (.tuple #[S ((isbnR s).getD []),bl (isbnR s).isSome])/\Bw w w':=by
 obtain⟨n,hn⟩:=Qe s.length;rw[hn]at hs;have E:=Z hn;have V:=jK s;have a0:=zC s;rw[hn]at a0;obtain⟨o,ho⟩:=Qe (isbnGo s);rw[ho]at V a0;have HO:=Z ho;have HM:=Z V;clear hn V ho;go_enter func96,ntmps96;go_wp2_with fail;go_loopw [4,5] (λv i wr=>∃(k:Nat)(D:Bs),k<=n/\v=S D/\i=J U k/\Hid (o=D++isbnGo (s.drop k))/\Hid (Bw w wr)) (λ_ i _=>n-(intOf i).toNat)
 exact⟨0,[],cl _,rfl,rfl,HO.symm,cd _ _⟩;obtain⟨k,D,hk,rfl,rfl,z,g⟩:=hrel;have al:D.length<=1000000:=by have m:=congrArg dz z.o;rw[ci]at m;omega
 have g1:¬9223372036854775807<dz D+1:=by omega
 by_cases f:∃h:k<s,((digitB s[k]||xB s[k])=true∨s[k]=32∨s[k]=45)
 .obtain⟨a,f⟩:=f;have y:k<n:=by rw[<- E.o];exact a
  have q:=oE s k a;obtain⟨c,d⟩:=Qe (s[k]);rw[d]at q f;have i1:(k:Int)<n:=by omega
  by_cases hkeep:(digitB c||xB c)=true
  .rw[if_pos hkeep]at q;have I:Hid (o=(D++[c])++isbnGo (s.drop (k+1))):=by unfold Hid;rw[em];exact z.o.trans (by rw[q];rfl)
   have a9:(48<=c.toNat/\c.toNat<=57)∨c.toNat=88∨c.toNat=120:=by
    rcases Bool.or_eq_true_iff.1 hkeep with h|h
    .exact .inl (c8 h)
    unfold xB at h;rcases Bool.or_eq_true_iff.1 h with h|h
    .exact .inr (.inl (by rw[of_decide_eq_true h];rfl))
    exact .inr (.inr (by rw[of_decide_eq_true h];rfl))
   clear q hkeep;rcases a9 with⟨m,h2⟩|m|m
   all_goals
    go_wp2_with fail
    go_roundw
    case rel=>exact⟨k+1,D++[c],y,by first|(simp;done)|(obtain rfl:c=88:=UInt8.toNat_inj.1 m;simp;done)|(obtain rfl:c=120:=UInt8.toNat_inj.1 m;simp;done),by go_num,I.o,g.o.alloc g.o.size _⟩
    case measure=>simp[intOf];omega
  rw[if_neg hkeep]at q;have a1:c=32∨c=45:=f.resolve_left hkeep;rw[if_pos a1]at q;have I:Hid (o=D++isbnGo (s.drop (k+1))):=z.o.trans (by rw[q]);clear q hkeep f;rcases a1 with rfl|rfl
  all_goals
   go_wp2_with fail
   go_roundw
   case rel=>exact⟨k+1,D,y,rfl,by go_num,I.o,g.o⟩
   case measure=>simp[intOf];omega
 have a7:o=D:=by
  rw[z.o];by_cases a:k<s
  .rw[oE s k a,if_neg (λh=>f ⟨a,.inl h⟩),if_neg (λh=>f ⟨a,.inr h⟩),e5]
  rw[c4 (by omega)];exact e5 _
 subst a7;have Q:(k<n/\∃h:k<s,∃c,s[k]=c/\(c.toNat<48∨57<c.toNat)/\((c.toNat:Int)==88)=false/\((c.toNat:Int)==120)=false/\((c.toNat:Int)==32)=false/\((c.toNat:Int)==45)=false)∨¬k<n:=by
  by_cases a:k<s
  .refine .inl ⟨by rw[<- E.o];exact a,a,_,rfl,?_,beq_eq_false_iff_ne.2 λh=>?_,beq_eq_false_iff_ne.2 λh=>?_,beq_eq_false_iff_ne.2 λh=>?_,beq_eq_false_iff_ne.2 λh=>?_⟩
   .refine Decidable.byContradiction λh=>f ⟨a,.inl (by rw[Bool.or_eq_true_iff];exact .inl (by unfold digitB;simp;omega))⟩
   .exact f ⟨a,.inl (by rw[show s[k]=88 from UInt8.toNat_inj.1 (Int.ofNat.inj h)];rfl)⟩
   .exact f ⟨a,.inl (by rw[show s[k]=120 from UInt8.toNat_inj.1 (Int.ofNat.inj h)];rfl)⟩
   .exact f ⟨a,.inr (.inl (UInt8.toNat_inj.1 (Int.ofNat.inj h)))⟩
   exact f ⟨a,.inr (.inr (UInt8.toNat_inj.1 (Int.ofNat.inj h)))⟩
  exact .inr (by rw[<- E.o];exact a)
 have A:Hid (isbnR s=if o.length=10/\jw o=true then X ([57,55,56]++o.take 9++[checkR ([57,55,56]++o.take 9)])else if o.length=13/\ea o=true/\checkR o=o.getD 12 0 then X o else Y):=by unfold Hid isbnR;rw[HO.o]
 have a6:Hid (o.length=10->∀W,cx prog 142 #[S o] W λe w'=>e=bd (bl (jw o))/\W=w'):=λh W=>AI o W h (λc d=>by have:=HM.o c d;rwa[Bool.or_eq_true_iff]at this);have t:=Z (λW=>mN o W (by omega));have a5:Hid (o.length=10->jw o=true->∀W,cx prog 143 #[S ([57,55,56]++o.take 9)] W λe w'=>e=bd (J bk (checkR ([57,55,56]++o.take 9)).toNat)/\W=w'):=λh j W=>oW _ W (by simp;omega) (by simp;omega) (by unfold jw at j;rw[Bool.and_eq_true]at j;rw[ca (by simp;omega),List.all_append,j.2];rfl)
 have a4:Hid (o.length=13->ea o=true->∀W,cx prog 143 #[S o] W λe w'=>e=bd (J bk (checkR o).toNat)/\W=w'):=λh T W=>oW _ W (by omega) (by omega) (by unfold ea at T;rw[eQ]at T ⊢;exactλx hx=>T x (dq hx))
 clear f;have Q:(∃h:k<s,(k:Int)<n/\∃c,s[k]=c/\(¬(48:Int)<=(c.toNat:Int)∨((48:Int)<=(c.toNat:Int)/\¬(c.toNat:Int)<=57))/\((c.toNat:Int)==88)=false/\((c.toNat:Int)==120)=false/\¬(c.toNat:Int)=32/\¬(c.toNat:Int)=45/\((c.toNat:Int)!=32)=true/\((c.toNat:Int)!=45)=true)∨¬((k:Int)<(s.length:Int)):=by
  rcases Q with⟨y,a,c,d,n1,b1,b2,M,N⟩|y
  .exact .inl ⟨a,by omega,c,d,by omega,b1,b2,by simpa using M,by simpa using N,by simpa using M,by simpa using N⟩
  exact .inr (by rw[E.o];omega)
 rcases Q with⟨a,y,c,d,n1|⟨n1,n2⟩,b1,b2,M,N,b5,b6⟩|i2;all_goals go_upto_region 9 with fail
 all_goals
  by_cases h10:o.length=10
  .have F:=Z (a6 h10)
   by_cases j:jw o=true
   .have L:=Z (a5 h10 j)
    have l:Hid (isbnR s=X ([57,55,56]++o.take 9++[checkR ([57,55,56]++o.take 9)])):=A.trans (if_pos ⟨h10,j⟩)
    rw[j]at F
    have h9:(o.take 9).length=9:=by simp;omega
    clear j
    have L:Hid (∀W,cx prog 143 #[S (57::55::56::o.take 9)] W λe w'=>e=bd (J bk (checkR ([57,55,56]++o.take 9)).toNat)/\W=w'):=L.o
    go_wp2_with (first
     |(go_at_call 142;((with_reducible refine cc (F.o _) ?_);rintro e r⟨rfl,rfl⟩))
     |(go_at_call 143;((with_reducible refine cc (L.o _) ?_);rintro e r⟨rfl,rfl⟩)))
    go_ret2
    exact⟨by rw[l.o];rfl,g.o.alloc g.o.size _⟩
   .have l:Hid (isbnR s=Y):=A.o.trans ((if_neg (λh=>j h.2)).trans (if_neg (λh=>by omega)))
    have a2:jw o=false:=by simpa using j
    rw[a2]at F
    have ao:((o.length:Int)==13)=false:=by simp;omega
    clear j a2
    go_wp2_with (first
     |(go_at_call 142;((with_reducible refine cc (F.o _) ?_);rintro e r⟨rfl,rfl⟩))
     |(go_at_call 144;((with_reducible refine cc (t.o _) ?_);rintro e r⟨rfl,rfl⟩)))
    have b:Bw wr wr.drew:=(cd _ _).drew
    refine Wb wr 999 ?_
    refine Qc [0,1,2,3] b ?_
    refine Qg [4] b ?_
    refine Qc [5,6] b ?_
    refine Qg [7,8,9,10,11] b ?_
    refine Qc [12] b ?_
    refine dN ?_
    go_wp2_with fail
    go_ret2
    exact⟨by rw[l.o];rfl,g.o.drew⟩
  .have i9:((o.length:Int)==10)=false:=by simp;omega
   obtain⟨G,u⟩:=Qe (o.all digitB)
   rw[u]at t
   have b:Bw wr wr.drew:=(cd _ _).drew
   by_cases p:o.length=13/\G=true
   .obtain⟨p,rfl⟩:=p
    have a3:((o.length:Int)==13)=true:=by simp;omega
    have aa:∀W,Bw wr W->cx prog 143 #[S o] W λe w'=>e=bd (J bk (checkR o).toNat)/\Bw wr w':=λW h=>(a4 p u W).mono (by rintro e w'⟨m,rfl⟩;exact⟨m,h⟩)
    have ad:12<o.length:=by omega
    have ac:o.getD 12 0=o[12]:=by simp[cu,cs ad]
    have l:Hid (isbnR s=if checkR o=o[12]then X o else Y):=by
     unfold Hid
     rw[A.o,if_neg (λh=>h10 h.1),ac]
     by_cases d:checkR o=o[12]
     .rw[if_pos ⟨p,u,d⟩,if_pos d]
     .rw[if_neg (λh=>d h.2.2),if_neg d]
    have HE:Hid (((checkR o).toNat:Int)=((o[12]).toNat:Int)↔checkR o=o[12]):=⟨λh=>UInt8.toNat_inj.1 (Int.ofNat.inj h),λh=>by rw[h]⟩
    generalize checkR o=C at*
    go_wp2_with (go_at_call 144;(refine cc (t.o _) ?_;rintro e r⟨rfl,rfl⟩))
    refine Wb wr 999 ?_
    refine Qc [0,1,2,3,4,5,6,7,9,10] b ?_
    refine call1 8 b aa λW2 H=>?_
    obtain⟨O,R⟩:=Qe (((C.toNat:Int)==((o[12]).toNat:Int)))
    cases O with
    |true=>
     have d:=Z (HE.1 (eq_of_beq R))
     refine Qc [11,12] H ?_
     refine dN ?_
     go_wp2_with fail
     go_ret2
     exact⟨by rw[l.o,if_pos d.o];rfl,btr g.o H g.o.size⟩
    |false=>
     have d:Hid (¬C=o[12]):=λh=>by rw[HE.o.2 h]at R;simp at R
     refine Qc [11,12] H ?_
     refine dN ?_
     go_wp2_with fail
     go_ret2
     exact⟨by rw[l.o,if_neg d.o];rfl,btr g.o H g.o.size⟩
   .have l:Hid (isbnR s=Y):=A.o.trans ((if_neg (λh=>h10 h.1)).trans (if_neg (λh=>p ⟨h.1,by rw[<- u];exact h.2.1⟩)))
    clear u
    by_cases hl:o.length=13
    .have a3:((o.length:Int)==13)=true:=by simp;omega
     have a8:G=false:=by simpa usingλh=>p ⟨hl,h⟩
     subst a8
     clear hl p h10
     go_wp2_with (go_at_call 144;(refine cc (t.o _) ?_;rintro e r⟨rfl,rfl⟩))
     refine Wb wr 999 ?_
     refine Qc [0,1,2,3,4,5,6] b ?_
     refine Qg [7,8,9,10,11] b ?_
     refine Qc [12] b ?_
     refine dN ?_
     go_wp2_with fail
     go_ret2
     exact⟨by rw[l.o];rfl,g.o.drew⟩
    .have a3:((o.length:Int)==13)=false:=by simp;omega
     clear hl p h10
     go_wp2_with (go_at_call 144;(refine cc (t.o _) ?_;rintro e r⟨rfl,rfl⟩))
     refine Wb wr 999 ?_
     refine Qc [0,1,2,3] b ?_
     refine Qg [4] b ?_
     refine Qc [5,6] b ?_
     refine Qg [7,8,9,10,11] b ?_
     refine Qc [12] b ?_
     refine dN ?_
     go_wp2_with fail
     go_ret2
     exact⟨by rw[l.o];rfl,g.o.drew⟩
attribute [local go_sem] Oper.semAt_some
theorem kj{l:List Bs}{k:Nat}(h:k<l)(x:Bs):x∈l.take (k+1)↔x∈l.take k∨x=l[k]:=by
 rw[bY h,e4,fb]
theorem na{k w:cj}{A:Array Oper}{C:List Oper}{o:Oper}{a:Act}{Q:Exit->Act->cj->Prop}{s x:Operand}{t e:e9}{base size b n m c:Nat}{z v:cp}{l:List cp}(f:List cp)
 (y:w.ownsRow base e size v n l)(r:Below base k w)(h0:base<=k)(V:prog.underlying t=X (.slice e))(d:(prog.info? e).map (λi=>(i.zero,i.size,i.bytes))=X (X z,size,b))
 (h:∀(g:Option Addr)(j:Nat)w',w'.ownsRow base e size (bv g (n+m) j) (n+m) (l++f)->Below base k w'->wpList prog A Q C (a.put o.dst (bv g (n+m) j)) w')
 (G:o.guard=Y:=by rfl)(N:o.op=.call {callee:=.builtin .append,args:= #[s,x],argTypes:= #[t,t]}:=by rfl)(R:a.eval s=v:=by rfl)(W:a.eval x=bv w m c:=by rfl)(M:f=m*size:=by rfl)
 (E:∀u∈f,u.oneCell'=true:=by simp[Value.oneCell'])(a0:z.cells.size=size:=by rfl)(T:0<size:=by decide)(F:0<b:=by decide)(hn:(n+m)*b<=100000000000000:=by omega):wpList prog A Q (o::C) a (w.alloc (bw f.toArray e)):=by
 have hz:=r.size;cases hi:prog.info? e with
 |none=>rw[hi]at d;cases d
 |some i=> rw[hi]at d;simp only[Option.map_some,Option.some.injEq,Prod.mk.injEq]at d;obtain⟨H,I,L⟩:=d;have h5:n+m<=(n+m)*b:=Nat.le_mul_of_pos_right _ F;refine wpList_append_own_at _ G s x t N base e i z size b V hi H I L a0 T v n l R (World.ownsRow.alloc y _) _ m c f W M (fT _ _ _) E (by unfold maxLen;omega) (by omega) (by rw[cq];omega) λv' w' p D _ _=>?_;obtain⟨g,j,rfl⟩:=aw p;exact h g j w' p ((r.alloc (by omega) _).grown D (by rw[cq];omega) λq O=>(y.lt q O).1)
theorem ud(v:cp)(l:List Bs)(s:Bs)(B:Nat)(w:cj)(h:w.ownsRow B 9 1 v l (l.map λs=>S s))(O:B<=w)(hl:l.length<=2000000000000):
 cx prog 97 #[v,S s] w λe w'=>∃(v':cp)(l':List Bs),e=bd v'/\w'.ownsRow B 9 1 v' l' (l'.map λs=>S s)/\(∀x,x∈l'↔x∈l∨x=s)/\l'.length<=l+1/\Bw w w':=by
 obtain⟨G,u,rfl⟩:=aw h;have T:=aM (aD h (cl _));have HH:=Z h;have HR:Hid (db 0 w w (bv G l u) l):=T;have H:=Z O;obtain⟨n,hn⟩:=Qe l.length;have D:=Z hn;rw[hn]at hl ⊢;clear h T hn O;go_enter func97,ntmps97;go_wp2_with fail;go_loopw [5,6,7] (λv d i wr=>∃(k:Nat)(b:Bool)(a:List Bs)(G:Option Addr)(u:Nat),k<=n/\v=bv G a u/\d=bl b/\i=J U k/\Hid (wr.ownsRow w 9 1 (bv G a u) a (a.map λs=>S s))/\Hid (Bw w wr)/\Hid (a=k+if b then 1 else 0)/\Hid (∀x,x∈a↔x∈l.take k∨(b=true/\x=s))/\Hid (s∉l.take k)) (λ_ _ i _=>n-(intOf i).toNat)
 exact⟨0,false,[],Y,0,cl _,rfl,rfl,rfl,cP _ _ _ _,cd _ _,rfl,by unfold Hid;simp,by unfold Hid;simp⟩;obtain⟨k,b,a,xa,xc,hk,rfl,rfl,rfl,E,j,m,p,HS⟩:=hrel;by_cases hlt:k<n;rotate_left
 .have a5:k=n:=by omega
  have Q:l.take k=l:=ca (by rw[D.o];omega);rw[Q]at p;have t:a.length<=2000000000001:=by have:=m.o;split at this<;>omega
  have r:=Z t;clear Q t;subst a5;have HW:Hid (∀(W:cj)v,W.ownsRow w 9 1 v a (a.map λs=>S s)->W.ownsRow B 9 1 v a (a.map λs=>S s)):=λW v h=>aD h H.o;cases b
  .go_wp2_with (at_builtin;refine na [S s] E.o j.o (bO _) underlying81 i9 ?_ (hn:=by have:=r.o;omega);intro z A w7 f c;have q:=Z f;have o:=Z c;clear f c)
   go_ret;refine⟨bv z (a.length+1) A,a++[s],rfl,?_,λy=>?_,?_,o.o⟩
   .have:=aD q.o H.o;simpa using this
   .rw[e4,p.o y];simp
   have:=m.o;simp at this ⊢;omega
  go_wp2_with fail;go_ret;refine⟨bv xa a xc,rfl,a,aD E.o H.o,λy=>?_,?_,j.o⟩
  .rw[p.o y];simp
  have:=m.o;simp at this ⊢;omega
 have F:k<l:=by rw[D.o];exact hlt
 obtain⟨g,V,a6,hv,_,R,N⟩:=db.at (HR.kept (aW j.o (bO _))) k F;injection hv with e1 e2 e3
 subst e1 e3;clear e2;have C:=Z (kj F);have L:=Z R;have t:a.length<=2000000000001:=by have:=m.o;split at this<;>omega
 have r:=Z t;obtain⟨x,I⟩:=Qe (l[k]);have a1:Hid (x∈l):=by rw[<- I];exact cm F
 rw[I]at N C;have i1:(k:Int)<n:=by omega
 clear I F R t;by_cases hxs:x=s
 .subst hxs;have i2:(x==x)=true:=by simp
  go_wp2_with fail;go_ret;refine⟨bv (X ⟨g,V,Y⟩) n u,l,rfl,?_,λy=>?_,by rw[D.o];omega,j.o⟩
  .have:=ap HH.o j.o;rwa[D.o]at this ⊢
  exact⟨.inl,λh=>h.elim id λh=>h▸a1.o⟩
 have i2:(x==s)=false:=by simpa using hxs
 have a4:=Z hxs;clear hxs;have a3:Hid (∀W,Bw w W->W.cell? ⟨g,V+k,Y⟩=X (S x)):=λW hW=>by rw[(aq hW).1 g _ L.o,<- (aq j.o).1 g _ L.o];exact N
 have M:Hid (s∉l.take (k+1)):=λh=>((C s).1 h).elim HS.o λh=>a4 h.symm;rcases hL:Op.bytesLess s x with _|_<;>cases b
 case' true.false=>
  go_wp2_with (first
   |(at_builtin;refine na [S s] E.o j.o (bO _) underlying81 i9 ?_ (hn:=by have:=r.o;omega);intro a7 a8 w6 f c;have c6:=a3.o w6 c;have a2:=Z f;have a0:=Z c;clear f c)
   |(at_builtin;refine na [S x] a2.o a0.o (bO _) underlying81 i9 ?_ (hn:=by have:=r.o;omega);intro z A w7 f c;have q:=Z f;have o:=Z c;clear f c))
  go_roundw
  case' rel=>
   refine⟨k+1,true,a++[s,x],z,A,hlt,by simp,rfl,by go_num,?_,o.o,?_,λy=>?_,M.o⟩
   .have:=q.o;unfold Hid;simpa using this
   .have:=m.o;unfold Hid;simp at this ⊢;omega
   rw[C.o y,e4,p.o y];simp<;>grind
  case' measure=>simp[intOf];omega
 all_goals
  go_wp2_with (at_builtin;refine na [S x] E.o j.o (bO _) underlying81 i9 ?_ (hn:=by have:=r.o;omega);intro z A w7 f c;have q:=Z f;have o:=Z c;clear f c)
  go_roundw
  case' rel=>
   refine⟨k+1,_,a++[x],z,A,hlt,by simp,rfl,by go_num,?_,o.o,?_,λy=>?_,M.o⟩
   .have:=q.o;unfold Hid;simpa using this
   .have:=m.o;unfold Hid;simp at this ⊢;omega
   .rw[C.o y,e4,p.o y];simp<;>grind
  case' measure=>simp[intOf];omega
attribute [local go_sem] Oper.semAt_some
theorem db.below{w wr:cj}{v:cp}{l:List Bs}(h:db 0 w w v l)(a:Bw w wr):db 0 w wr v l:=aL.kept h (aW a (bO _))
theorem oS(v u:cp)(a b:List Bs)(w:cj)(A:db 0 w w v a)(l:db 0 w w u b)(a0:a.length<=2000000000000)(a1:b.length<=2000000000000):
 cx prog 54 #[v,u] w λe w'=>e=bd (bl (a.any b.contains))/\Bw w w':=by
 obtain⟨va,vc,rfl,_⟩:=id A;obtain⟨ua,uc,rfl,_⟩:=id l;have M:=Z A;have T:=Z l;obtain⟨n,hn⟩:=Qe a.length;obtain⟨m,C⟩:=Qe b.length;obtain⟨r,D⟩:=Qe (a.any b.contains);have H:=Z hn;have G:=Z C;have I:=Z D;rw[hn]at a0 ⊢;rw[C]at a1 ⊢;rw[D];clear A l hn C D;go_enter func54,ntmps54;go_wp2_with fail;go_loopw [5] (λi wr=>∃k:Nat,k<=n/\i=J U k/\Hid (Bw w wr)/\Hid (∀x∈a.take k,x∉b)) (λi _=>n-(intOf i).toNat)
 exact⟨0,cl _,rfl,cd _ _,by unfold Hid;simp⟩;obtain⟨k,hk,rfl,c,t⟩:=hrel;by_cases hlt:k<n;rotate_left
 .have f:a.take k=a:=ca (by rw[H.o];omega);rw[f]at t;clear f;go_wp2_with fail;go_ret;refine⟨am ?_,c.o⟩;rw[<- I.o,eq_comm,List.any_eq_false];exactλx o h=>t x o (List.contains_iff_mem.1 h)
 have f:k<a:=by rw[H.o];exact hlt
 have i1:(k:Int)<n:=by omega
 obtain⟨x,o⟩:=Qe (a[k]);have L:=Z (kj f);rw[o]at L;have Q:Hid (x∈a):=by rw[<- o];exact cm f
 obtain⟨g,a2,a3,E,_,q,p⟩:=M.at k f;injection E with e1 e2 e3
 subst e1 e3;rw[o]at p;have N:Hid (∀W,Bw w W->W.cell? ⟨g,a2+k,Y⟩=X (S x)):=λW hW=>by rw[(aq hW).1 g _ q];exact p
 clear e2 o f p q;go_wp2_with fail;go_loopw [6] (λi wr=>∃j:Nat,j<=m/\i=J U j/\Hid (Bw w wr)/\Hid (∀y∈b.take j,x≠y)) (λi _=>m-(intOf i).toNat)
 case atStart=>exact⟨0,cl _,rfl,c.o,by unfold Hid;simp⟩
 obtain⟨j,hj,rfl,c,s⟩:=hrel;by_cases hjm:j<m;rotate_left
 .have d:b.take j=b:=ca (by rw[G.o];omega);rw[d]at s;clear d;go_wp2_with fail;go_roundw;exact⟨k+1,hlt,by go_num,c.o,λz F l=>((L z).1 F).elim (λh=>t z h l) λe=>s z l e.symm⟩;simp[intOf];omega
 have d:j<b:=by rw[G.o];exact hjm
 have i2:(j:Int)<m:=by omega
 have HY:=Z (kj d);obtain⟨g',a5,a4,E,_,q,c1⟩:=(T.below c.o).at j d;injection E with e1 e2 e3
 subst e1 e3;have p:=N wr c.o;have R:Hid (b[j]∈b):=cm d;generalize b[j]=y at*;clear e2 d q;by_cases hxy:x=y
 .have O:Hid (r=true):=I.o.symm.trans (List.any_eq_true.2 ⟨x,Q.o,by rw[List.contains_iff_mem,hxy];exact R.o⟩);have i3:(x==y)=true:=by simpa using hxy
  clear hxy;go_upto_region 7 with fail;go_region;go_wp2_with fail;go_ret;exact⟨am O.symm,c.drew⟩
 have i3:(x==y)=false:=by simpa using hxy
 have V:=Z hxy;clear hxy;go_upto_region 7 with fail;go_region;go_wp2_with fail;go_roundw
 case rel=>exact⟨j+1,hjm,by go_num,c.drew,λz F=>((HY z).1 F).elim (s z) λe=>e▸V.o⟩
 simp[intOf];omega
theorem ri(v u:cp)(a b:List Bs)(w:cj)(f:db 0 w w v a)(j:db 0 w w u b)(E:a.length<=2000000000000):
 cx prog 151 #[v,u] w λe w'=>e=bd (bl (decide (a=b)))/\Bw w w':=by
 obtain⟨T,V,rfl,_⟩:=id f;obtain⟨Q,R,rfl,_⟩:=id j;by_cases hab:a.length=b;rotate_left
 .have c:decide (a=b)=false:=decide_eq_false λe=>hab (by rw[e]);have F:((a.length:Int)==(b.length:Int))=false:=by simpa usingλh=>hab (by omega)
  rw[c];clear c f j;go_enter func151,ntmps151;go_wp2_with fail;go_ret;exact⟨rfl,cd _ _⟩
 have C:=Z f;have D:=Z j;obtain⟨n,hn⟩:=Qe a.length;obtain⟨r,c⟩:=Qe (decide (a=b));have o:=Z hn;have z:=Z hab;have A:=Z c;rw[<- hab,hn,c];rw[hn]at E;clear f j hn c hab;go_enter func151,ntmps151;go_wp2_with fail;go_loopw [5] (λi wr=>∃k:Nat,k<=n/\i=J U k/\Hid (Bw w wr)/\Hid (a.take k=b.take k)) (λi _=>n-(intOf i).toNat)
 case atStart=>exact⟨0,cl _,rfl,cd _ _,rfl⟩
 obtain⟨k,M,rfl,d,q⟩:=hrel;by_cases hlt:k<n;rotate_left
 .rw[ca (by rw[o.o];omega),ca (by rw[<- z.o,o.o];omega)]at q;go_wp2_with fail;go_ret;exact⟨am (by rw[<- A.o,decide_eq_true q.o]),d.o⟩
 have l:k<a:=by rw[o.o];exact hlt
 have s:k<b:=by rw[<- z.o];exact l
 have F:(k:Int)<n:=by omega
 obtain⟨g,N,H,t,_,_,G⟩:=(C.below d.o).at k l;injection t with e1 e2 e3
 subst e1 e3;obtain⟨L,O,I,t,_,_,c1⟩:=(D.below d.o).at k s;injection t with e1 e2 e3
 subst e1 e3;have p:Hid (a[k]=b[k]->a.take (k+1)=b.take (k+1)):=λh=>by rw[bY l,bY s,q.o,h]
 have m:Hid (a[k]≠b[k]->r=false):=λh=>A.symm.trans (decide_eq_false λe=>h (by subst e;rfl));generalize a[k]=x at*;generalize b[k]=y at*;clear l s;by_cases hxy:x=y
 .have p:=Z (p hxy);have i3:(x==y)=true:=by simpa using hxy
  clear hxy;go_upto_region 6 with fail;go_region;go_wp2_with fail;go_roundw;exact⟨k+1,hlt,by go_num,d.drew,p.o⟩;simp[intOf];omega
 have m:=Z (m hxy);have i3:(x==y)=false:=by simpa using hxy
 clear hxy;go_upto_region 6 with fail;go_region;go_wp2_with fail;go_ret;exact⟨am m.symm,d.drew⟩
theorem Cn(b:Nat)(x y:Int)(w:cj)(a:w.cell? b=X (J U x))(c1:w.cell? ⟨b,1,Y⟩=X (J U y)):
 cx prog 90 #[bv b 2 2] w λe w'=>e=bd (J U (if x≠0 then x else y))/\w=w':=by
 by_cases hx:x=0;rotate_left
 .rw[if_pos hx];go_enter func90,ntmps90;go_wp2;refine gn 3 ?_;rw[e6];go_wp2;go_ret;exact⟨rfl,rfl⟩
 subst hx;by_cases hy:y=0
 .subst hy;go_enter func90,ntmps90;go_wp2;refine gn 3 ?_;rw[e6];go_wp2;rw[e6];go_wp2;rw[e6];go_wp2;go_ret;exact⟨rfl,rfl⟩
 go_enter func90,ntmps90;go_wp2;refine gn 3 ?_;rw[e6];go_wp2;rw[e6];go_wp2;go_ret;exact⟨rfl,rfl⟩
theorem vF(W:cj)(x y:cp)(t n:Nat)(h:W=n):(W.alloc (bw #[x,y] t)).drew.cell? n=X x/\(W.alloc (bw #[x,y] t)).drew.cell? ⟨n,1,Y⟩=X y:=by
 subst h;have a:(W.alloc (bw #[x,y] t)).heap[W.heap.size]?=X (bw #[x,y] t (0,0)):=cb W _;exact⟨(ab a 0).trans rfl,(ab a 1).trans rfl⟩
def recK(a:RK):cp:=.agg #[a.1,a.2]
theorem jI(a b:RK)(w:cj):cx prog 25 #[recK a,recK b] w λe w'=>e=bd (bl (ltRK a b))/\Bw w w':=by
 obtain⟨c,f⟩:=a;obtain⟨d,g⟩:=b;unfold recK ltRK;dsimp only;by_cases h:c=d
 .subst h;go_enter func25,ntmps25;go_wp2;go_ret;exact⟨am (by simp),((cd _ w).alloc (bO _) _).alloc (by simp) _⟩
 have i:(c==d)=false:=by simpa using h
 go_enter func25,ntmps25;go_wp2;go_ret;exact⟨am (by simp[h]),((cd _ w).alloc (bO _) _).alloc (by simp) _⟩
theorem fj(a b:RK)(w:cj):cx prog 49 #[recK a,recK b] w λe w'=>e=bd (bI a b)/\bF w w':=by
 obtain⟨g,i⟩:=a;obtain⟨j,k⟩:=b;unfold recK bI;dsimp only;have v:Hid (∀(x y:Int)(W:cj),cx prog 91 #[x,y] W λe w'=>e=bd (fC x y)/\W=w'):=jj;have F:Hid (∀(b:Nat)(x y:Int)(w:cj),w.cell? b=X (J U x)->w.cell? ⟨b,1,Y⟩=X (J U y)->cx prog 90 #[bv b 2 2] w λe w'=>e=bd (J U (if x≠0 then x else y))/\w=w'):=Cn;generalize hp:fC g j=p;generalize hq:fC i k=q;have G:=Z hp;have H:=Z hq;clear hp hq;go_enter func49,ntmps49;go_wp2;have I:(w.alloc (bw #[g,i] 36)).heap.size=w+1:=by simp
 obtain⟨c,l⟩:=Qe ((w.alloc (bw #[g,i] 36)).alloc (bw #[j,k] 36));have m:c.heap[w.heap.size]?=X (bw #[g,i] 36 (0,0)):=by rw[<- l,cg _ _ _ (by simp)];exact cb w _
 have n:c.heap[w.heap.size+1]?=X (bw #[j,k] 36 (0,0)):=by rw[<- l];have:=cb (w.alloc (bw #[g,i] 36)) (bw #[j,k] 36);rwa[cq]at this
 have f:c.drew.cell? w=X (J U g)/\c.drew.cell? ⟨w,1,Y⟩=X (J U i)/\c.drew.cell? ⟨w.heap.size+1,0,Y⟩=X (J U j)/\c.drew.cell? ⟨w.heap.size+1,1,Y⟩=X (J U k):=
  ⟨(ab m 0).trans rfl,(ab m 1).trans rfl,(ab n 0).trans rfl,(ab n 1).trans rfl⟩
 have z:∀o,(c.alloc o).drew.cell? w=X (J U g)/\(c.alloc o).drew.cell? ⟨w,1,Y⟩=X (J U i)/\(c.alloc o).drew.cell? ⟨w.heap.size+1,0,Y⟩=X (J U j)/\(c.alloc o).drew.cell? ⟨w.heap.size+1,1,Y⟩=X (J U k):=λo=>
  ⟨(bf c o _ _ (af m)).trans f.1,(bf c o _ _ (af m)).trans f.2.1,(bf c o _ _ (af n)).trans f.2.2.1,(bf c o _ _ (af n)).trans f.2.2.2⟩
 have A:bF w c:=by rw[<- l];exact((bF.refl w).alloc _).alloc _
 have C:c.heap.size=w+2:=by rw[<- l];simp
 have E:=Z A;rw[l];clear m n l I A;refine wT (λW=>W.cell? w=X (J U g)/\W.cell? ⟨w,1,Y⟩=X (J U i)/\W.cell? ⟨w.heap.size+1,0,Y⟩=X (J U j)/\W.cell? ⟨w.heap.size+1,1,Y⟩=X (J U k)) 12 ?_;refine tk 0 ?_ rfl f ?_ ?_;rotate_left;intro w' h;go_simp;rfl;refine tk 1 ?_ rfl f ?_ ?_;rotate_left;rintro w'⟨r,s,t,u⟩;go_simp;rfl;refine tk 2 ?_ rfl f ?_ ?_;rotate_left;intro w' h;go_simp;rfl;refine tk 3 ?_ rfl f ?_ ?_;rotate_left;rintro w'⟨r,s,t,u⟩;go_simp;rfl;refine tk 5 ?_ rfl f ?_ ?_;rotate_left;intro w' h;go_simp;rfl;refine tk 6 ?_ rfl f ?_ ?_;rotate_left;rintro w'⟨r,s,t,u⟩;go_simp;rfl;refine tk 7 ?_ rfl f ?_ ?_;rotate_left;intro w' h;go_simp;rfl;refine tk 8 ?_ rfl f ?_ ?_;rotate_left;rintro w'⟨r,s,t,u⟩;go_simp;rfl;refine Dp 4 λK d=>?_;go_simp;go_at_call 91;refine(v _ _ _).mono ?_;rintro e D⟨rfl,rfl⟩;rw[G.o];refine d _ _ (λ_=>f) ?_;clear d K;refine Dp 9 λK d=>?_;go_simp;go_at_call 91;refine(v _ _ _).mono ?_;rintro e D⟨rfl,rfl⟩;rw[H.o];refine d _ _ (λ_=>f) ?_;clear d K;refine Dp 10 λK d=>?_;go_simp;refine d _ _ (λ_=>z _) ?_;clear d K;refine Dp 11 λK d=>?_;go_simp;go_at_call 90;refine(F _ _ _ _ (vF c _ _ _ _ C).1 (vF c _ _ _ _ C).2).mono ?_;rintro e D⟨rfl,rfl⟩;refine d _ _ (λ_=>z _) ?_;clear d K;refine Dl 12 ?_;go_wp2;all_goals go_ret
 all_goals exact⟨rfl,(E.alloc _).drew⟩
def pairV(a:PK):cp:=.agg #[a.1.1,a.1.2,a.2.1,a.2.2]
def kM(N:Nat)(a b c d e f g h:Int)(W:cj):Prop:=W.cell? N=X (J U a)/\W.cell? ⟨N,1,Y⟩=X (J U b)/\W.cell? ⟨N,2,Y⟩=X (J U c)/\W.cell? ⟨N,3,Y⟩=X (J U d)/\W.cell? ⟨N+1,0,Y⟩=X (J U e)/\W.cell? ⟨N+1,1,Y⟩=X (J U f)/\W.cell? ⟨N+1,2,Y⟩=X (J U g)/\W.cell? ⟨N+1,3,Y⟩=X (J U h)
theorem rP(W:cj)(x y:cp)(t:Nat):(W.alloc (bw #[x,y] t)).cell? W=X x/\(W.alloc (bw #[x,y] t)).cell? ⟨W,1,Y⟩=X y:=by
 have a:(W.alloc (bw #[x,y] t)).heap[W.heap.size]?=X (bw #[x,y] t (0,0)):=cb W _;exact⟨(ab a 0).trans rfl,(ab a 1).trans rfl⟩
theorem lq(a b:PK)(w:cj):cx prog 67 #[pairV a,pairV b] w λe w'=>e=bd (oU a b)/\bF w w':=by
 obtain⟨⟨f,g⟩,i,j⟩:=a;obtain⟨⟨l,m⟩,n,r⟩:=b;unfold pairV oU;dsimp only;have V:Hid (∀(A C D E:Int)(W:cj),cx prog 49 #[.agg #[A,C],.agg #[D,E]] W λe w'=>e=bd (bI (A,C) (D,E))/\bF W w'):=λA C D E=>fj (A,C) (D,E);have HO:Hid (∀(b:Nat)(x y:Int)(w:cj),w.cell? b=X (J U x)->w.cell? ⟨b,1,Y⟩=X (J U y)->cx prog 90 #[bv b 2 2] w λe w'=>e=bd (J U (if x≠0 then x else y))/\w=w'):=Cn;generalize hp:bI (f,g) (l,m)=p;generalize hq:bI (i,j) (n,r)=q;have HP:=Z hp;have HQ:=Z hq;clear hp hq;go_enter func67,ntmps67;go_wp2;have ad:(w.alloc (bw #[f,g,i,j] 134)).heap.size=w+1:=by simp
 obtain⟨c,s⟩:=Qe ((w.alloc (bw #[f,g,i,j] 134)).alloc (bw #[l,m,n,r] 134));have Q:c.heap[w.heap.size]?=X (bw #[f,g,i,j] 134 (0,0)):=by rw[<- s,cg _ _ _ (by simp)];exact cb w _
 have R:c.heap[w.heap.size+1]?=X (bw #[l,m,n,r] 134 (0,0)):=by rw[<- s];have:=cb (w.alloc (bw #[f,g,i,j] 134)) (bw #[l,m,n,r] 134);rwa[cq]at this
 have a0:bF w c:=by rw[<- s];exact((bF.refl w).alloc _).alloc _
 have ao:c.heap.size=w+2:=by rw[<- s];simp
 have t:Hid (∀W,Bw c W->kM w f g i j l m n r W):=λW hb=>by have v:=(hb.block _ (af Q)).trans Q;have z:=(hb.block _ (af R)).trans R;exact⟨(ab v 0).trans rfl,(ab v 1).trans rfl,(ab v 2).trans rfl,(ab v 3).trans rfl,(ab z 0).trans rfl,(ab z 1).trans rfl,(ab z 2).trans rfl,(ab z 3).trans rfl⟩
 have k:kM w f g i j l m n r c.drew:=t _ (cd _ c).drew;have a8:=Z a0;rw[s];clear Q R s ad a0;refine wT (λW=>kM w f g i j l m n r W) 12 ?_;refine tk 0 ?_ rfl k ?_ ?_;rotate_left;intro w' h;go_simp;rfl;refine tk 1 ?_ rfl k ?_ ?_;rotate_left;rintro w'⟨F,G,H,I,L,M,N,O⟩;go_simp;rfl;refine tk 2 ?_ rfl k ?_ ?_;rotate_left;intro w' h;go_simp;rfl;refine tk 3 ?_ rfl k ?_ ?_;rotate_left;rintro w'⟨F,G,H,I,L,M,N,O⟩;go_simp;rfl;refine tk 5 ?_ rfl k ?_ ?_;rotate_left;intro w' h;go_simp;rfl;refine tk 6 ?_ rfl k ?_ ?_;rotate_left;rintro w'⟨F,G,H,I,L,M,N,O⟩;go_simp;rfl;refine tk 7 ?_ rfl k ?_ ?_;rotate_left;intro w' h;go_simp;rfl;refine tk 8 ?_ rfl k ?_ ?_;rotate_left;rintro w'⟨F,G,H,I,L,M,N,O⟩;go_simp;rfl;refine Dp 4 λK d=>?_;go_simp;go_at_call 49;refine(V _ _ _ _ _).mono ?_;rintro e w2⟨rfl,aa⟩;rw[HP.o];have a6:bF c w2:=(bF.refl c).drew.trans aa;have a9:Bw c w2:=a6.below;refine d _ _ (λ_=>t _ a9) ?_;clear d K;refine Dp 9 λK d=>?_;go_simp;go_at_call 49;refine(V _ _ _ _ _).mono ?_;rintro e u⟨rfl,ac⟩;rw[HQ.o];have a7:bF c u:=a6.trans ac;have T:Bw c u:=a7.below;refine d _ _ (λ_=>t _ T) ?_;clear d K;have al:=T.size;refine Dp 10 λK d=>?_;go_simp;have a5:∀o,Bw c (u.alloc o):=λo=>T.alloc al o;refine d _ _ (λ_=>t _ (a5 _)) ?_;clear d K;refine Dp 11 λK d=>?_;go_simp;go_at_call 90;refine(HO _ _ _ _ (rP u _ _ _).1 (rP u _ _ _).2).mono ?_;rintro e w4⟨rfl,rfl⟩;refine d _ _ (λ_=>t _ (a5 _)) ?_;clear d K;refine Dl 12 ?_;go_wp2;all_goals go_ret
 all_goals exact⟨rfl,a8.trans (a7.alloc _)⟩
end
section
open Go.RowKit Go.Maps Go.Shelf
open Go.WideMaps (KeyLaw)
theorem mC:laidOutB prog=true:=by kernel_rfl
theorem Db:(36:e9)<prog.types.size:=of_decide_eq_true (by kernel_rfl)
theorem CH:(134:e9)<prog.types.size:=of_decide_eq_true (by kernel_rfl)
theorem CG:(211:e9)<prog.types.size:=of_decide_eq_true (by kernel_rfl)
theorem DA:prog.keyTypeAt 3 36=true:=by kernel_rfl
theorem hU:KeyLaw prog 36:=deep_law_laid mC (m:=3) (by omega) Db DA (by rw[underlying36])
theorem Df:prog.keyTypeAt 4 134=true:=by kernel_rfl
theorem uz:KeyLaw prog 134:=deep_law_laid mC (m:=4) (by omega) CH Df (by rw[underlying134])
theorem De:prog.keyTypeAt 3 211=true:=by kernel_rfl
theorem CT:KeyLaw prog 211:=deep_law_laid mC (m:=3) (by omega) CG De (by rw[underlying211])
def i64B(n:Int):Prop:= -9223372036854775808<=n/\n<=9223372036854775807
def rkOk(a:RK):Prop:=i64B a.1/\i64B a.2
def pkOk(p:PK):Prop:=rkOk p.1/\rkOk p.2
theorem Dw{n:Int}(h:i64B n):(Lit.int U n).wf=true:=by
 obtain⟨a,b⟩:=h;simp only[Lit.wf,IntKind.min,IntKind.max,IntKind.signed,IntKind.bits];simp;omega
theorem pF:prog.types.size=467:=by kernel_rfl
theorem uS:prog.cellsOf 3=1:=by kernel_rfl
theorem qH:prog.cellsOf 36=2:=by kernel_rfl
theorem ti:prog.cellsOf 134=4:=by kernel_rfl
theorem tg:prog.cellsOf 211=2:=by kernel_rfl
theorem CV:prog.keyType 36=true:=by kernel_rfl
theorem BJ:prog.keyType 134=true:=by kernel_rfl
theorem BI:prog.keyType 211=true:=by kernel_rfl
theorem vI(d:Nat)(n:Int)(h:i64B n):prog.keyLits (d+1) 3 [.int .i64 n]=X [.int .i64 n]:=by
 unfold es;rw[underlying3];simp[Dw h]
theorem us(d:Nat)(a:RK)(h:rkOk a):prog.keyLits (d+2) 36 [.int .i64 a.1,.int .i64 a.2]=X [.int .i64 a.1,.int .i64 a.2]:=by
 unfold es;rw[underlying36];simp[qH,uS,vI d _ h.1,vI d _ h.2]
theorem Bp(d:Nat)(a:RK)(h:rkOk a):prog.keyLits (d+2) 211 [.int .i64 a.1,.int .i64 a.2]=X [.int .i64 a.1,.int .i64 a.2]:=by
 unfold es;rw[underlying211];simp[tg,uS,vI d _ h.1,vI d _ h.2]
theorem Br(d:Nat)(p:PK)(h:pkOk p):prog.keyLits (d+3) 134 [.int .i64 p.1.1,.int .i64 p.1.2,.int .i64 p.2.1,.int .i64 p.2.2]=X [.int .i64 p.1.1,.int .i64 p.1.2,.int .i64 p.2.1,.int .i64 p.2.2]:=by
 unfold es;rw[underlying134];simp[ti,qH,us d _ h.1,us d _ h.2]
def recB:eJ prog 36 RK where
 kv:=recK
 kl a:=.string (keyBytes [.int .i64 a.1,.int .i64 a.2])
 ok:=rkOk
 keyed:=Keyed.of_law hU
 key a h:=by
  unfold keyOf
  rw[underlying36,pF]
  have:=us 466 a h
  simp only[CV,recK,Value.cells]at this ⊢
  simp[Value.formed,underlying36,qH,this]
 inj a b h:=by
  unfold recK at h
  injection h with h
  simp at h
  exact fx h.1 h.2
def pairB:eJ prog 134 PK where
 kv:=pairV
 kl p:=.string (keyBytes [.int .i64 p.1.1,.int .i64 p.1.2,.int .i64 p.2.1,.int .i64 p.2.2])
 ok:=pkOk
 keyed:=Keyed.of_law uz
 key a h:=by
  unfold keyOf
  rw[underlying134,pF]
  have:=Br 465 a h
  simp only[BJ,pairV,Value.cells]at this ⊢
  simp[Value.formed,underlying134,ti,this]
 inj a b h:=by
  unfold pairV at h
  injection h with h
  simp at h
  exact fx (fx h.1 h.2.1) (fx h.2.2.1 h.2.2.2)
def CM:eJ prog 211 RK where
 kv:=recK
 kl a:=.string (keyBytes [.int .i64 a.1,.int .i64 a.2])
 ok:=rkOk
 keyed:=Keyed.of_law CT
 key a h:=by
  unfold keyOf
  rw[underlying211,pF]
  have:=Bp 466 a h
  simp only[BI,recK,Value.cells]at this ⊢
  simp[Value.formed,underlying211,tg,this]
 inj a b h:=by
  unfold recK at h
  injection h with h
  simp at h
  exact fx h.1 h.2
end
section
open Go.RowKit Go.Maps Go.Shelf
def recI(n:Int):RK:=(1+n.emod 3,1+(n.tdiv 3).emod 4)
theorem df{fn:Func}{p:Tmp}{c:e9}(h:fn.results= #[.cell p c])(b:Array cp)(P:Program)(w:cj):
 (results fn b).run P w=((asAddr (b.getD p undef)).run P w).andThen λa d=>(loadVar c a).run P d:=by
 simp only[results,h];simp[Sem.run_bind,Result.andThen]
theorem pP(n:Int)(w:cj)(hn: -9223372036854775808<=n/\n<=9223372036854775807):cx prog 20 #[J U n] w λe w'=>e=bd (recK (recI n))/\Bw w w':=by
 unfold recI recK;dsimp only;have i:0<=n.emod 3/\n.emod 3<3:=⟨Int.emod_nonneg _ (by omega),Int.emod_lt_of_pos _ (by omega)⟩;have j:0<=(n.tdiv 3).emod 4/\(n.tdiv 3).emod 4<4:=⟨Int.emod_nonneg _ (by omega),Int.emod_lt_of_pos _ (by omega)⟩;have c:Hid (∀W,cx prog 24 #[J U n,J U 3] W λe w'=>e=bd (J U (n.emod 3))/\W=w'):=λW=>ki n 3 W (by omega) (by omega);have d:Hid (∀W,cx prog 24 #[J U (n.tdiv 3),J U 4] W λe w'=>e=bd (J U ((n.tdiv 3).emod 4))/\W=w'):=λW=>ki _ 4 W (by omega) (by omega);have k: -4611686018427387904<=n.tdiv 3/\n.tdiv 3<=4611686018427387904:=(by
  rcases Int.le_total 0 n with h|h
  .rw[eb h];omega
  have f:n.tdiv 3= -((-n).tdiv 3):=by rw[Int.neg_tdiv];omega
  rw[f,eb (by omega)];omega)
 generalize n.emod 3=a at*;generalize(n.tdiv 3).emod 4=b at*;go_enter func20,ntmps20
 go_wp2_with (first
  |(go_at_call 24;((with_reducible refine cc (c.o _) ?_);rintro e g⟨rfl,rfl⟩))
  |(go_at_call 24;((with_reducible refine cc (d.o _) ?_);rintro e g⟨rfl,rfl⟩)))
 refine ft (v:=.agg #[J U (1+a),J U (1+b)]) (by rw[df rfl];go_simp) rfl ?_;exact⟨rfl,(cd _ w).alloc (bO _) _⟩
def rkCells(a:RK):List cp:=[J U a.1,J U a.2]
def eL(lo a:Nat)(w:cj)(v:cp)(l:List RK):Prop:=aL lo a w v l (l.flatMap rkCells)
theorem eL.one{lo g:Nat}{w:cj}{v:cp}{l:List RK}(h:eL lo g w v l)(i:Nat)(e:i<l):
 ∃b c d,v=bv (X ⟨b,c,Y⟩) l d/\lo<=b/\b<g/\w.cell? ⟨b,c+i*2,Y⟩=X (J U l[i].1)/\w.cell? ⟨b,c+i*2+1,Y⟩=X (J U l[i].2):=by
 obtain⟨a,d,q,h⟩:=h;have p:l.flatMap rkCells≠[]:=by
  cases l with
  |nil=>simp at e
  |cons s l=>simp[rkCells]
 obtain⟨b,c,o,m,n,f⟩:=h p;subst o;have j:=cE rkCells 2 (λ_=>rfl) l i e 0 (by omega);have k:=cE rkCells 2 (λ_=>rfl) l i e 1 (by omega);exact⟨b,c,d,q,m,n,f _ _ j,by rw[Nat.add_assoc];exact f _ _ k⟩
theorem eL.kept{lo a:Nat}{w w':cj}{v:cp}{l:List RK}(h:eL lo a w v l)(k:js lo a w w'):eL lo a w' v l:=aL.kept h k
theorem cC(u v:cp)(l m:List RK)(w:cj)(r:eL 0 w w u l)(s:eL 0 w w v m)(hl:l.length<=1000000)(hm:m.length<=1000000):
 cx prog 17 #[u,v] w λe w'=>e=bd (bl (decide (l=m)))/\Bw w w':=by
 have D:=Z r;have E:=Z s;obtain⟨a,c,rfl,_⟩:=r;obtain⟨M,O,rfl,_⟩:=s;by_cases hlm:l.length=m;rotate_left
 .have I:((l.length:Int)!=(m.length:Int))=true:=by simp;omega
  go_enter func17,ntmps17;go_wp2_with fail;go_ret;exact⟨am (by symm;exact decide_eq_false (λh=>hlm (by rw[h]))),cd _ _⟩
 have I:((l.length:Int)!=(m.length:Int))=false:=by simp;omega
 have a3:m.length<=l:=by omega
 have a2:l.length<=m:=by omega
 have L:=Z hlm;clear hlm;go_enter func17,ntmps17;go_wp2_with fail;go_loopw [5] (λi wr=>∃k:Nat,k<=l/\i=J U k/\Hid (l.take k=m.take k)/\Bw w wr) (λi _=>l-(intOf i).toNat)
 case atStart=>exact⟨0,cl _,rfl,rfl,cd _ _⟩
 obtain⟨k,hk,rfl,j,d⟩:=hrel;by_cases hlt:k<l;rotate_left
 .have A:Hid (l=m):=by have:=j.o;rw[ca (by omega),ca (by omega)]at this;exact this
  go_wp2_with fail;go_ret;exact⟨am (by symm;exact decide_eq_true A.o),d⟩
 have o:k<m:=by omega
 obtain⟨b,a4,Q,f,_,V,F,c1⟩:=(eL.kept D.o (aW d (bO _))).one k hlt;cases f;obtain⟨N,a5,R,f,_,W,G,H⟩:=(eL.kept E.o (aW d (bO _))).one k o;cases f;have a1:(k:Int)<(m.length:Int):=by omega
 have n:Hid (l.take (k+1)=l.take k++[l[k]]/\m.take (k+1)=m.take k++[m[k]]):=⟨bY hlt,bY o⟩;have C:Hid (l=m->l[k]=m[k]):=λh=>by subst h;rfl
 generalize l[k]=p at*;generalize m[k]=q at*;obtain⟨t,x⟩:=p;obtain⟨y,z⟩:=q;dsimp only at F c1 G H;have a0:b<wr:=by have:=d.size;omega
 by_cases hpq:t=y/\x=z
 .obtain⟨rfl,rfl⟩:=hpq;go_wp2_with fail;go_region;go_wp2_with fail;go_roundw;exact⟨k+1,by omega,by go_num,by unfold Hid;rw[n.o.1,n.o.2,j.o],d.drew⟩;simp[intOf];omega
 have g:Hid (l≠m):=λh=>hpq (Prod.mk.inj (C h));by_cases h1:t=y
 .have T:¬x=z:=λh=>hpq ⟨h1,h⟩;subst h1;clear hpq;go_wp2_with fail;go_region;go_wp2_with fail;go_ret;exact⟨am (by symm;exact decide_eq_false g.o),d.drew⟩
 clear hpq;go_wp2_with fail;go_region;go_wp2_with fail;go_ret;exact⟨am (by symm;exact decide_eq_false g.o),d.drew⟩
theorem CY:(prog.info? 123).map (λi=>(i.zero,i.size,i.bytes))=X (X (.agg #[.string ⟨#[]⟩,.string ⟨#[]⟩,.string ⟨#[]⟩,bv Y 0 0]),4,72):=by kernel_rfl
theorem BM:(prog.info? 120).map (λi=>(i.zero,i.size,i.bytes))=X (X (.agg #[J bk 0,.string ⟨#[]⟩]),2,24):=by kernel_rfl
theorem i36:(prog.info? 36).map (λi=>(i.zero,i.size,i.bytes))=X (X (.agg #[J U 0,J U 0]),2,16):=by kernel_rfl
theorem xT(v:cp)(n:Nat)(f:List cp)(w:cj)(h:aL 0 w w v n f)(g:f=n*4)(i:∀u∈f,u.oneCell'=true)(hn:n<=1000000):
 cx prog 106 #[v] w λe w'=>∃d,e=bd d/\w'.ownsRow w 123 4 d n f/\Bw w w':=by
 have z:=Z h;obtain⟨a,c,rfl,h⟩:=h;have T:∀(w:cj)(a:Option Addr)(n c:Nat),(binOp .eql 60 (bv a n c) (bv Y 0 0)).run prog w=.ok (bl a.isNone) w:=λw a n c=>e7 w 60 _ a n c 0 0 underlying60;cases a with
 |none=>
  have G:f=[]:=by
   rcases f with _|⟨x,f⟩
   .rfl
   obtain⟨b,R,C,_⟩:=h (by simp);cases C
  subst G;have F:n=0:=by simp at g;omega
  subst F;clear h i g;go_enter func106,ntmps106;go_wp2_with fail;go_ret;exact⟨_,rfl,cP _ _ _ _,cd _ _⟩
 |some a=>
  clear h;obtain⟨M,D,H,I,L⟩:=info_parts CY;have s:=Z g;have q:=Z i;have A:Hid (∀o,aL 0 (w.alloc o).heap.size (w.alloc o) (bv (X a) n c) n f):=λo=>(z.o.kept (λk _ E=>cg w o k E)).mono (bO _) (by simp);have y:Hid ((w.alloc (bw #[] 123)).ownsRow w 123 4 (bv (X ⟨w,0,Y⟩) 0 0) 0 []):=dA (cb w _) (bO _);clear g i;go_enter func106,ntmps106;go_wp2_with (at_builtin;refine aJ _ rfl _ _ 60 rfl w 123 M (.agg #[.string ⟨#[]⟩,.string ⟨#[]⟩,.string ⟨#[]⟩,bv Y 0 0]) 4 72 underlying60 D H I L rfl (by decide) w 0 0 [] rfl y.o _ _ n f rfl (A.o _) s.o q.o (by unfold maxLen;omega) (by omega) (by simp) ?_;intro N O w1 p l Q;have t:=Z p;have r:=Z l;clear p l)
  go_ret;refine⟨_,rfl,?_,?_⟩
  .have:=t.o;rw[eg,fr]at this;exact this
  exact((cd _ w).alloc (bO _) _).grown r.o (by simp) (λj m=>by injection m with m;omega)
theorem xS(v:cp)(n:Nat)(f:List cp)(w:cj)(h:aL 0 w w v n f)(g:f=n*2)(i:∀u∈f,u.oneCell'=true)(hn:n<=1000000):
 cx prog 107 #[v] w λe w'=>∃d,e=bd d/\w'.ownsRow w 120 2 d n f/\Bw w w':=by
 have z:=Z h;obtain⟨a,c,rfl,h⟩:=h;have T:∀(w:cj)(a:Option Addr)(n c:Nat),(binOp .eql 121 (bv a n c) (bv Y 0 0)).run prog w=.ok (bl a.isNone) w:=λw a n c=>e7 w 121 _ a n c 0 0 underlying121;cases a with
 |none=>
  have G:f=[]:=by
   rcases f with _|⟨x,f⟩
   .rfl
   obtain⟨b,R,C,_⟩:=h (by simp);cases C
  subst G;have F:n=0:=by simp at g;omega
  subst F;clear h i g;go_enter func107,ntmps107;go_wp2_with fail;go_ret;exact⟨_,rfl,cP _ _ _ _,cd _ _⟩
 |some a=>
  clear h;obtain⟨M,D,H,I,L⟩:=info_parts BM;have s:=Z g;have q:=Z i;have A:Hid (∀o,aL 0 (w.alloc o).heap.size (w.alloc o) (bv (X a) n c) n f):=λo=>(z.o.kept (λk _ E=>cg w o k E)).mono (bO _) (by simp);have y:Hid ((w.alloc (bw #[] 120)).ownsRow w 120 2 (bv (X ⟨w,0,Y⟩) 0 0) 0 []):=dA (cb w _) (bO _);clear g i;go_enter func107,ntmps107;go_wp2_with (at_builtin;refine aJ _ rfl _ _ 121 rfl w 120 M (.agg #[J bk 0,.string ⟨#[]⟩]) 2 24 underlying121 D H I L rfl (by decide) w 0 0 [] rfl y.o _ _ n f rfl (A.o _) s.o q.o (by unfold maxLen;omega) (by omega) (by simp) ?_;intro N O w1 p l Q;have t:=Z p;have r:=Z l;clear p l)
  go_ret;refine⟨_,rfl,?_,?_⟩
  .have:=t.o;rw[eg,fr]at this;exact this
  exact((cd _ w).alloc (bO _) _).grown r.o (by simp) (λj m=>by injection m with m;omega)
theorem Ah(v:cp)(n:Nat)(f:List cp)(w:cj)(h:aL 0 w w v n f)(g:f=n*2)(i:∀u∈f,u.oneCell'=true)(hn:n<=1000000):
 cx prog 52 #[v] w λe w'=>∃d,e=bd d/\w'.ownsRow w 36 2 d n f/\Bw w w':=by
 have z:=Z h;obtain⟨a,c,rfl,h⟩:=h;have T:∀(w:cj)(a:Option Addr)(n c:Nat),(binOp .eql 52 (bv a n c) (bv Y 0 0)).run prog w=.ok (bl a.isNone) w:=λw a n c=>e7 w 52 _ a n c 0 0 underlying52;cases a with
 |none=>
  have G:f=[]:=by
   rcases f with _|⟨x,f⟩
   .rfl
   obtain⟨b,R,C,_⟩:=h (by simp);cases C
  subst G;have F:n=0:=by simp at g;omega
  subst F;clear h i g;go_enter func52,ntmps52;go_wp2_with fail;go_ret;exact⟨_,rfl,cP _ _ _ _,cd _ _⟩
 |some a=>
  clear h;obtain⟨M,D,H,I,L⟩:=info_parts i36;have s:=Z g;have q:=Z i;have A:Hid (∀o,aL 0 (w.alloc o).heap.size (w.alloc o) (bv (X a) n c) n f):=λo=>(z.o.kept (λk _ E=>cg w o k E)).mono (bO _) (by simp);have y:Hid ((w.alloc (bw #[] 36)).ownsRow w 36 2 (bv (X ⟨w,0,Y⟩) 0 0) 0 []):=dA (cb w _) (bO _);clear g i;go_enter func52,ntmps52;go_wp2_with (at_builtin;refine aJ _ rfl _ _ 52 rfl w 36 M (.agg #[J U 0,J U 0]) 2 16 underlying52 D H I L rfl (by decide) w 0 0 [] rfl y.o _ _ n f rfl (A.o _) s.o q.o (by unfold maxLen;omega) (by omega) (by simp) ?_;intro N O w1 p l Q;have t:=Z p;have r:=Z l;clear p l)
  go_ret;refine⟨_,rfl,?_,?_⟩
  .have:=t.o;rw[eg,fr]at this;exact this
  exact((cd _ w).alloc (bO _) _).grown r.o (by simp) (λj m=>by injection m with m;omega)
theorem xx(ps:List (ag×cp)):∀(m i:Nat)(u:cp)(q:ag×cp)(a:m<ps),i<4->(fieldCells ps[m]).set i u=fieldCells q->(ps.flatMap fieldCells).set (m*4+i) u=(ps.set m q).flatMap fieldCells:=by
 induction ps with
 |nil=>intro m i u q a;simp at a
 |cons p ps ih=>
  intro m i u q a d b;cases m with
  |zero=> simp only[List.getElem_cons_zero]at b;rw[c5,List.set_append_left _ _ (by simp[fieldCells];omega),Nat.zero_mul,eg,b];rfl
  |succ m=>
   simp only[fy]at b;have c:(fieldCells p).length=4:=by simp[fieldCells]
   rw[c5,gi _ _ (by rw[c];omega),c,show(m+1)*4+i-4=m*4+i from by omega,ih m i u q (by simpa using a) d b];rfl
theorem xA(ps:List (ag×cp)):∀(m i:Nat)(a:m<ps),i<4->(ps.flatMap fieldCells)[m*4+i]?=(fieldCells ps[m])[i]?:=λm i a b=>by
 rw[cE fieldCells 4 (λ_=>rfl) ps m a i b]
theorem qA(ps:List (ag×cp)):∀u∈ps.flatMap fieldCells,(∀p∈ps,p.2.oneCell'=true)->u.oneCell'=true:=by
 intro u a c;obtain⟨p,b,a⟩:=List.mem_flatMap.1 a;simp only[fieldCells,List.mem_cons,List.not_mem_nil,or_false]at a;rcases a with rfl|rfl|rfl|rfl
 .rfl
 .rfl
 .rfl
 exact c p b
theorem tP(b:List cH):∀u∈b.flatMap subCells,u.oneCell'=true:=by
 intro u a;obtain⟨p,c,a⟩:=List.mem_flatMap.1 a;simp only[subCells,List.mem_cons,List.not_mem_nil,or_false]at a;rcases a with rfl|rfl<;>rfl
theorem xy(ps:List (ag×cp)):(ps.flatMap fieldCells).length=ps*4:=by
 induction ps with
 |nil=>rfl
 |cons p ps ih=>rw[c5,ci,ih];simp[fieldCells];omega
theorem xz(a:List cH):(a.flatMap subCells).length=a*2:=by
 induction a with
 |nil=>rfl
 |cons p ps ih=>rw[c5,ci,ih];simp[subCells];omega
structure gL(W0 L wc:Nat)(d:cp)(fs:List ag)(k:Nat)(wr:cj):Prop where
 ex:∃ps:List (ag×cp),ps.map (·.1)=fs/\wr.ownsRow L 123 4 d fs (ps.flatMap fieldCells)/\
  (∀j(hj:j<ps.length),j<k->aE wc wr wr ps[j].2 ps[j].1.subs)/\(∀j(hj:j<ps.length),k<=j->aE 0 W0 wr ps[j].2 ps[j].1.subs)
 blk:∀g,d.ownBlock=some g->L<=g/\g<wc
 big:W0<=L/\L<=wc/\wc<=wr
theorem gL.start{w wc:cj}{L:Nat}{d:cp}{ps:List (ag×cp)}{a:List ag}(k:ps.map (·.1)=a)(l:∀p∈ps,aE 0 w w p.2 p.1.subs)(e:w<=L)(f:L<=wc)(h:Bw w wc)(c:wc.ownsRow L 123 4 d a (ps.flatMap fieldCells)):
 gL w L wc d a 0 wc:=by
 refine⟨⟨ps,k,c,λj b m=>by omega,λj b _=>(l _ (cm b)).kept (aW h (bO _))⟩,λg i=>c.lt g i,e,f,bO _⟩
theorem gL.far{a L wc k:Nat}{d:cp}{l:List ag}{wr w':cj}(h:gL a L wc d l k wr)(f:∀q,q<a∨L<=q->q<wr->w'.heap[q]?=wr.heap[q]?)(r:wr.heap.size<=w'):gL a L wc d l k w':=by
 obtain⟨ps,n,b,o,p⟩:=h.ex;have m:=h.big;refine⟨⟨ps,n,aj b (λq g=>f q (.inr (b.lt q g).1) (b.lt q g).2),λj c e=>((o j c e).kept (λq g i=>f q (.inr (by omega)) i)).mono (bO _) r,λj c e=>(p j c e).kept (λq _ i=>f q (.inl i) (by omega))⟩,h.blk,m.1,m.2.1,by omega⟩
theorem gL.form{c L wc k:Nat}{d:cp}{b:List ag}{wr:cj}(h:gL c L wc d b k wr)(i:k<b):∃g a,d=bv (X ⟨g,0,Y⟩) b a:=by
 obtain⟨l,j,f,_⟩:=h.ex;obtain⟨g,a,e,_⟩:=World.ownsRow.form f (by omega);exact⟨g,a,e⟩
theorem gL.cell{b L wc k:Nat}{g j:Nat}{a:List ag}{wr:cj}(h:gL b L wc (bv g a j) a k wr)(o:k<a):
 ∃c,wr.cell? ⟨g,k*4+3,Y⟩=X c/\aE 0 b wr c a[k].subs/\∀i,wr.frozen? ⟨g,i,Y⟩=false:=by
 obtain⟨ps,d,e,n,m⟩:=h.ex;have p:ps.length=a:=by rw[<- d];simp
 have f:k<ps:=by omega
 have l:ps[k].1=a[k]:=by simp[<- d]
 refine⟨ps[k].2,?_,by rw[<- l];exact m k f (bO _),λi=>e.frozenAt i⟩;rw[e.cellAt (k*4+3) (by omega),xA ps k 3 f (by omega)];rfl
theorem gL.put{n L wc k:Nat}{d a:cp}{b:List ag}{wr c:cj}(h:gL n L wc d b k wr)(r:k<b)(i:Bw wr c)(I:c.ownsRow wr 120 2 a b[k].subs.length (b[k].subs.flatMap subCells)){g u:Nat}(p:d=bv g b u):
 gL n L wc d b (k+1) (c.setCell ⟨g,k*4+3,Y⟩ a):=by
 obtain⟨ps,m,o,y,z⟩:=h.ex;have s:k<ps:=by rw[<- m]at r;simpa using r
 obtain⟨O,N⟩:=h.blk g (by rw[p];rfl);have M:=i.size;obtain⟨D,E,F⟩:=h.big;have v:ps[k].1=b[k]:=by simp[<- m]
 have w:c.ownsRow L 123 4 d b (ps.flatMap fieldCells):=aj o (λq l=>i.block q (o.lt q l).2);have G:aE wc (c.setCell ⟨g,k*4+3,Y⟩ a).heap.size (c.setCell ⟨g,k*4+3,Y⟩ a) a b[k].subs:=by have A:aE wr c c a b[k].subs:=aM I;have C:=A.kept (w':=c.setCell ⟨g,k*4+3,Y⟩ a) (λq l _=>ch _ _ _ _ (by simp;omega));exact C.mono F (by rw[cQ];exact bO _)
 refine⟨⟨ps.set k (ps[k].1,a),?_,?_,λj f H=>?_,λj f H=>?_⟩,h.blk,D,E,by rw[cQ];omega⟩
 .rw[List.map_set,<- m];have:ps[k].1=(List.map (λx:ag×cp=>x.1) ps)[k]'(by simpa using s):=by simp
  rw[this,List.set_getElem_self]
 .subst p;have:=(w.stored (k*4+3) a).1;rw[xx ps k 3 a (ps[k].1,a) s (by omega) (by simp[fieldCells])]at this;exact this
 .rw[List.length_set]at f;simp only[List.getElem_set];split
  .rename_i e;rw[v];exact G
  rename_i e;refine((y j f (by omega)).kept (λq l t=>?_)).mono (bO _) (by rw[cQ];exact M);rw[ch _ _ _ _ (by simp;omega)];exact i.block q t
 rw[List.length_set]at f;simp only[List.getElem_set];rw[if_neg (by omega)];refine(z j f (by omega)).kept (λq l t=>?_);rw[ch _ _ _ _ (by simp;omega)];exact i.block q (by omega)
theorem gL.done{c L wc k:Nat}{d:cp}{a:List ag}{wr:cj}(h:gL c L wc d a k wr)(m:a<=k):ah L wr wr d a:=by
 obtain⟨ps,b,e,f,_⟩:=h.ex;have n:ps.length=a:=by rw[<- b];simp
 have g:=h.big;refine⟨ps,b,λp l=>?_,aM e⟩;obtain⟨j,i,rfl⟩:=List.getElem_of_mem l;exact(f j i (by omega)).mono g.2.1 (bO _)
theorem AJ{lo b:Nat}{w:cj}{v:cp}{d:List cH}(h:aE lo b w v d):v.oneCell'=true:=by
 obtain⟨a,c,rfl,_⟩:=h;rfl
def tA(B:Nat)(a b:UInt8)(d:cp)(w:cj):Prop:=w.heap[B]?=X (bw #[J bk a,J bk b,d] 62 (0,0))/\w.heap[B+1]?=X (bw #[J bk 0,J bk 0,bv Y 0 0] 62 (0,0))
theorem tA.far{B:Nat}{a b:UInt8}{d:cp}{w w':cj}(h:tA B a b d w)(c:w'.heap[B]?=w.heap[B]?)(e:w'.heap[B+1]?=w.heap[B+1]?):tA B a b d w':=⟨c.trans h.1,e.trans h.2⟩
theorem zk(v:cp)(r:aG)(w:cj)(h:eK 0 w w v r)(hn:r.fields.length<=1000000)(hs:∀f∈r.fields,f.subs.length<=1000000):
 cx prog 60 #[v] w λe w'=>∃v',e=bd v'/\eK w w' w' v' r/\Bw w w':=by
 obtain⟨m,n,a⟩:=r;obtain⟨x,rfl,hx⟩:=h;obtain⟨ps,O,a3,a1⟩:=hx;dsimp only at O hn hs a1;unfold eG;dsimp only;obtain⟨c,I⟩:=Qe ((w.alloc (bw #[J bk m,J bk n,x] 62)).alloc (bw #[J bk 0,J bk 0,bv Y 0 0] 62));have N:Bw w c:=by rw[<- I];exact((cd _ w).alloc (bO _) _).alloc (by simp) _
 have al:c.heap.size=w+2:=by rw[<- I];simp
 have W:tA w m n x c:=by
  refine⟨?_,?_⟩
  .rw[<- I,cg _ _ _ (by simp)];exact cb w _
  rw[<- I];have:=cb (w.alloc (bw #[J bk m,J bk n,x] 62)) (bw #[J bk 0,J bk 0,bv Y 0 0] 62);rwa[cq]at this
 have ad:aL 0 c c x a (ps.flatMap fieldCells):=(a1.kept (aW N (bO _))).mono (bO _) N.size;have aa:ps.length=a:=by rw[<- O];simp
 have HC:=Z (xT x a (ps.flatMap fieldCells) c ad (by rw[xy,aa]) (λu hu=>qA ps u hu λp hp=>AJ (a3 p hp)) (by omega));have az:=Z O;have aS:=Z a3;have D:=Z N;have a2:c.cell? ⟨w,2,Y⟩=X x:=by rw[ab W.1];rfl
 have HA:=Z W;have aC:=Z hs;have z:=Z al;clear ad a1 a3 N aa W O hs al;go_enter func60,ntmps60;go_wp2_with (go_at_call 106;(refine cc HC.o ?_;rintro e wc⟨d,rfl,hr,M⟩;obtain⟨l,b,rfl⟩:=aQ hr;have G:tA w m n x wc:=HA.o.far (M.block _ (by rw[z.o];omega)) (M.block _ (by rw[z.o];omega));have c2:wc.cell? ⟨w,2,Y⟩=X x:=(ab G.1 2).trans rfl;have f2:=ae G.1 2;have HR:=Z hr;have R:=Z M;have a4:=Z G;clear hr M G))
 have hO:=gL.start az.o aS.o (L:=c.heap.size) D.size R.size (btr D.o R.o D.size) HR.o
 have a6:gL w c wc (bv l a b) a 0 (wc.setCell ⟨w,2,Y⟩ (bv l a b)):=
  hO.far (λq hq _=>ch _ _ _ _ (by have:=z.o;simp;omega)) (by rw[cQ];exact bO _)
 have a7:tA w m n (bv l a b) (wc.setCell ⟨w,2,Y⟩ (bv l a b)):=by
  refine⟨?_,?_⟩
  .rw[aA a4.o.1];rfl
  rw[ch _ _ _ _ (by simp)];exact a4.o.2
 have a5:Bw w (wc.setCell ⟨w,2,Y⟩ (bv l a b)):=(btr D.o R.o D.o.size).setCell (by simp) _;have ay:=Z a6;have aT:=Z a7;have ao:=Z a5;clear hO a6 a7 a5;go_loopw [3,11] (λ_a i wr=>∃k:Nat,k<=a/\i=J U k/\Hid (gL w c wc (bv l a b) a k wr)/\Hid (tA w m n (bv l a b) wr)/\Hid (Bw w wr)) (λ_ i _=>a-(intOf i).toNat)
 exact⟨0,cl _,rfl,ay,aT,ao⟩;obtain⟨k,hk,rfl,y,j,C⟩:=hrel;have e2:wr.cell? ⟨w,2,Y⟩=X (bv l a b):=by rw[ab j.o.1];rfl
 by_cases hlt:k<a;rotate_left
 .have c0:wr.cell? w=X (J bk m):=by rw[ab j.o.1];rfl
  have c1:wr.cell? ⟨w,1,Y⟩=X (J bk n):=by rw[ab j.o.1];rfl
  have d0:wr.cell? ⟨w.heap.size+1,0,Y⟩=X (J bk 0):=by rw[ab j.o.2];rfl
  have d1:wr.cell? ⟨w.heap.size+1,1,Y⟩=X (J bk 0):=by rw[ab j.o.2];rfl
  have d2:wr.cell? ⟨w.heap.size+1,2,Y⟩=X (bv Y 0 0):=by rw[ab j.o.2];rfl
  have g0:=ae j.2 0;have g1:=ae j.2 1;have g2:=ae j.2 2;go_wp2_with fail;refine ft (v:=.agg #[J bk m,J bk n,bv l a b]) (by rw[df rfl];go_simp) rfl ?_;refine⟨_,rfl,⟨_,rfl,?_⟩,((C.o.setCell (by simp) _).setCell (by simp) _).setCell (by simp) _⟩;refine((y.o.done (by omega)).kept (λq hq _=>?_)).mono (by have:=z.o;omega) (by simp);have hz:=z.o;rw[ch _ _ _ _ (by simp;omega),ch _ _ _ _ (by simp;omega),ch _ _ _ _ (by simp;omega)]
 obtain⟨g,b2,he⟩:=y.form hlt;cases he;obtain⟨E,a8,ac,a9⟩:=y.cell hlt;have b1:w+2<=g/\g<wr:=by have:=y.o.blk g rfl;have:=y.o.big;have:=z.o;omega
 have av:=Z (xS E a[k].subs.length (a[k].subs.flatMap subCells) wr.drew ((show aE 0 w wr.drew E a[k].subs from ac).mono (bO _) C.size) (xz _) (tP _) (aC _ (cm hlt)));have H:wr.drew.cell? ⟨w,2,Y⟩=X (bv g a b)/\wr.drew.cell? ⟨g,k*4+3,Y⟩=X E:=⟨e2,a8⟩;have b3:(k:Int)<(a.length:Int):=by omega
 have ax:=Z (a9 (k*4+3));clear ac a9 a8 e2;go_wp2_with fail;refine wT (λw'=>w'.cell? ⟨w,2,Y⟩=X (bv g a b)/\w'.cell? ⟨g,k*4+3,Y⟩=X E) 12 ?_;refine Qb [0,2,3,5,1,4,6,7,8] H (λw' h=>h) ?_;refine Dp 9 λK o=>?_;go_simp;go_at_call 107;refine av.mono ?_;rintro e t⟨dd,rfl,a0,s⟩;obtain⟨T,V,rfl⟩:=aQ a0;have A:Bw wr t:=⟨s.os,s.tape,s.output,s.size,s.block⟩;have F:t.cell? ⟨w,2,Y⟩=X (bv g a b)/\t.cell? ⟨g,k*4+3,Y⟩=X E:=⟨fV s _ _ H.1,fV s _ _ H.2⟩;refine o _ _ (λ_=>F) ?_;clear o K;have c9:=F.2;have f9:t.frozen? ⟨g,k*4+3,Y⟩=false:=by rw[(aq A).2 _ _ b1.2];exact ax.o
 refine Ds 10 F ?_;refine Qb [11] F (λw' h=>h) ?_
 refine Dl 12 ?_;have HN:Hid (gL w c wc (bv g a b) a (k+1) (t.setCell ⟨g,k*4+3,Y⟩ (.slice T a[k].subs.length V))):=y.put hlt A a0 rfl;have b0:Hid (tA w m n (bv g a b) (t.setCell ⟨g,k*4+3,Y⟩ (.slice T a[k].subs.length V))):=by
  have b4:=C.size;refine j.far ?_ ?_
  .rw[ch _ _ _ _ (by simp;omega)];exact A.block _ (by omega)
  rw[ch _ _ _ _ (by simp;omega)];exact A.block _ (by omega)
 have au:Hid (Bw w (t.setCell ⟨g,k*4+3,Y⟩ (.slice T a[k].subs.length V))):=(btr C.o A C.o.size).setCell (by simp;omega) _;clear H F c9 f9 a0 s A;go_wp2_with fail;go_roundw
 case rel=>exact⟨k+1,by omega,by go_num,HN,b0,au⟩
 simp[intOf];omega
theorem xI(u v:cp)(l m:List cH)(w:cj)(x:aE 0 w w u l)(y:aE 0 w w v m)(hl:l.length<=1000000)(hm:m.length<=1000000):
 cx prog 105 #[u,v] w λe w'=>e=bd (bl (decide (l=m)))/\Bw w w':=by
 have E:=Z x;have F:=Z y;obtain⟨a,c,rfl,_⟩:=x;obtain⟨N,Q,rfl,_⟩:=y;by_cases hlm:l.length=m;rotate_left
 .have L:((l.length:Int)!=(m.length:Int))=true:=by simp;omega
  go_enter func105,ntmps105;go_wp2_with fail;go_ret;exact⟨am (by symm;exact decide_eq_false (λh=>hlm (by rw[h]))),cd _ _⟩
 have L:((l.length:Int)!=(m.length:Int))=false:=by simp;omega
 have a4:m.length<=l:=by omega
 have a3:l.length<=m:=by omega
 have M:=Z hlm;clear hlm;go_enter func105,ntmps105;go_wp2_with fail;go_loopw [5,13] (λ_a i wr=>∃k:Nat,k<=l/\i=J U k/\Hid (l.take k=m.take k)/\Bw w wr) (λ_ i _=>l-(intOf i).toNat)
 case atStart=>exact⟨0,cl _,rfl,rfl,cd _ _⟩
 obtain⟨k,hk,rfl,o,d⟩:=hrel;by_cases hlt:k<l;rotate_left
 .have C:Hid (l=m):=by have:=o.o;rw[ca (by omega),ca (by omega)]at this;exact this
  go_wp2_with fail;go_ret;exact⟨am (by symm;exact decide_eq_true C.o),d⟩
 have t:k<m:=by omega
 obtain⟨b,a5,R,f,_,W,G,c1⟩:=(aE.kept E.o (aW d (bO _))).sub k hlt;cases f;obtain⟨O,a6,T,f,_,a0,H,I⟩:=(aE.kept F.o (aW d (bO _))).sub k t;cases f;have a2:(k:Int)<(m.length:Int):=by omega
 have r:Hid (l.take (k+1)=l.take k++[l[k]]/\m.take (k+1)=m.take k++[m[k]]):=⟨bY hlt,bY t⟩;have D:Hid (l=m->l[k]=m[k]):=λh=>by subst h;rfl
 generalize l[k]=p at*;generalize m[k]=q at*;obtain⟨g,z⟩:=p;obtain⟨j,A⟩:=q;dsimp only at G c1 H I;have a1:b<wr:=by have:=d.size;omega
 by_cases hpq:g=j/\z=A
 .obtain⟨rfl,rfl⟩:=hpq;go_wp2_with fail;go_region;go_wp2_with fail;go_roundw;exact⟨k+1,by omega,by go_num,by unfold Hid;rw[r.o.1,r.o.2,o.o],d.drew⟩;simp[intOf];omega
 have n:Hid (l≠m):=λh=>hpq (by injection D.o h with h1 s;exact⟨h1,s⟩);by_cases h1:g=j
 .have s:¬z=A:=λh=>hpq ⟨h1,h⟩;subst h1;clear hpq;go_wp2_with fail;go_region;go_wp2_with fail;go_ret;exact⟨am (by symm;exact decide_eq_false n.o),d.drew⟩
 have V:¬(g.toNat=j):=λe=>h1 (UInt8.toNat_inj.1 e);clear hpq;go_wp2_with fail;go_region;go_wp2_with fail;go_ret;exact⟨am (by symm;exact decide_eq_false n.o),d.drew⟩
theorem wL(f g:ag)(d t:cp)(w:cj)(p:aE 0 w w d f.subs)(r:aE 0 w w t g.subs)(u:f.subs.length<=1000000)(v:g.subs.length<=1000000):
 cx prog 104 #[.agg #[S f.tag,S f.ind,S f.data,d],.agg #[S g.tag,S g.ind,S g.data,t]] w λe w'=>e=bd (bl (decide (f=g)))/\Bw w w':=by
 obtain⟨t1,k,n,l⟩:=f;obtain⟨t2,x,y,m⟩:=g;dsimp only at p r u v ⊢;have C:=Z p;have D:=Z r;obtain⟨a,c,rfl,_⟩:=p;obtain⟨E,F,rfl,_⟩:=r;have b:∀o i,Bw w ((w.alloc o).alloc i):=λo i=>((cd _ w).alloc (bO _) o).alloc (by simp) i;by_cases e1:t1=t2;rotate_left
 .have j:(t1==t2)=false:=by simpa using e1
  clear e1;go_enter func104,ntmps104;go_wp2_with fail;go_ret;exact⟨am (by symm;exact decide_eq_false (λh=>by injection h with h;rw[h]at j;simp at j)),b _ _⟩
 subst e1;by_cases e2:k=x;rotate_left
 .have j:(k==x)=false:=by simpa using e2
  clear e2;go_enter func104,ntmps104;go_wp2_with fail;go_ret;exact⟨am (by symm;exact decide_eq_false (λh=>by injection h with _ h;rw[h]at j;simp at j)),b _ _⟩
 subst e2;by_cases e3:n=y
 .subst e3;have z:=Z (λo i=>xI (bv a l c) (bv E m F) l m ((w.alloc o).alloc i) ((C.kept (aW (b o i) (bO _))).mono (bO _) (b o i).size) ((D.kept (aW (b o i) (bO _))).mono (bO _) (b o i).size) u v);have A:Hid (decide ((⟨t1,k,n,l⟩:ag)=⟨t1,k,n,m⟩)=decide (l=m)):=by unfold Hid;simp
  have s:=Z b;clear b;generalize decide (l=m)=q at*;go_enter func104,ntmps104;go_wp2_with (go_at_call 105;(refine cc (z.o _ _) ?_;rintro e w'⟨rfl,G⟩))
  all_goals go_ret
  all_goals exact⟨am A.symm,(s _ _).trans (G.mono (s _ _).size)⟩
 have j:(n==y)=false:=by simpa using e3
 clear e3;go_enter func104,ntmps104;go_wp2_with fail;go_ret;exact⟨am (by symm;exact decide_eq_false (λh=>by injection h with _ _ h;rw[h]at j;simp at j)),b _ _⟩
theorem uN(u v:cp)(l m:List ag)(w:cj)(H:ah 0 w w u l)(I:ah 0 w w v m)(hl:l.length<=1000000)(hm:m.length<=1000000)(V:∀f∈l,f.subs.length<=1000000)(a0:∀f∈m,f.subs.length<=1000000):
 cx prog 103 #[u,v,.func (.func 104) #[] #[]] w λe w'=>e=bd (bl (decide (l=m)))/\Bw w w':=by
 have HU:=Z H;have HV:=Z I;have a1:=Z V;have a2:=Z a0;obtain⟨a,c,rfl⟩:=H.shape;obtain⟨a',c',rfl⟩:=I.shape;clear H I V a0;by_cases hlm:l.length=m;rotate_left
 .have a3:((l.length:Int)!=(m.length:Int))=true:=by simp;omega
  go_enter func103,ntmps103;go_wp2_with fail;go_ret;exact⟨am (by symm;exact decide_eq_false (λh=>hlm (by rw[h]))),cd _ _⟩
 have a3:((l.length:Int)!=(m.length:Int))=false:=by simp;omega
 have ax:m.length<=l:=by omega
 have av:l.length<=m:=by omega
 have a4:=Z hlm;clear hlm;go_enter func103,ntmps103;go_wp2_with fail;go_loopw [7,8,9,17] (λ_a _b _c i wr=>∃k:Nat,k<=l/\i=J U k/\Hid (l.take k=m.take k)/\Bw w wr) (λ_ _ _ i _=>l-(intOf i).toNat)
 case atStart=>exact⟨0,cl _,rfl,rfl,cd _ _⟩
 obtain⟨k,hk,rfl,L,j⟩:=hrel;by_cases hlt:k<l;rotate_left
 .have HE:Hid (l=m):=by have:=L.o;rw[ca (by omega),ca (by omega)]at this;exact this
  go_wp2_with fail;go_ret;exact⟨am (by symm;exact decide_eq_true HE.o),j⟩
 have E:k<m:=by omega
 obtain⟨b,ay,a5,d,D,_,al,c0,c1,c2,c3,F⟩:=(ah.kept HU.o (aW j (bO _))).field k hlt;cases D;obtain⟨s,x,a6,z,D,_,ao,O,Q,R,T,G⟩:=(ah.kept HV.o (aW j (bO _))).field k E;cases D;have au:(k:Int)<(m.length:Int):=by omega
 have M:Hid (l.take (k+1)=l.take k++[l[k]]/\m.take (k+1)=m.take k++[m[k]]):=⟨bY hlt,bY E⟩;have HQ:Hid (l=m->l[k]=m[k]):=λh=>by subst h;rfl
 have C:=j.size;have a7:∀o,(wr.alloc o).cell? ⟨s,x+k*4,Y⟩=X (S m[k].tag):=λo=>by rw[bf _ _ _ _ (by omega)];exact O
 have a8:∀o,(wr.alloc o).cell? ⟨s,x+k*4+1,Y⟩=X (S m[k].ind):=λo=>by rw[bf _ _ _ _ (by omega)];exact Q
 have a9:∀o,(wr.alloc o).cell? ⟨s,x+k*4+2,Y⟩=X (S m[k].data):=λo=>by rw[bf _ _ _ _ (by omega)];exact R
 have aa:∀o,(wr.alloc o).cell? ⟨s,x+k*4+3,Y⟩=X z:=λo=>by rw[bf _ _ _ _ (by omega)];exact T
 have r:Hid (∀o g,Bw w ((wr.alloc o).alloc g)):=λo g=>(j.alloc C o).alloc (by simp;omega) g
 have n:Hid (∀W,Bw wr W->cx prog 104 #[.agg #[S l[k].tag,S l[k].ind,S l[k].data,d],.agg #[S m[k].tag,S m[k].ind,S m[k].data,z]] W λe w'=>e=bd (bl (decide (l[k]=m[k])))/\Bw W w'):=λW t=>
  wL l[k] m[k] d z W (((F.mono (bO _) C).kept (aW t (bO _))).mono (bO _) t.size) (((G.mono (bO _) C).kept (aW t (bO _))).mono (bO _) t.size) (a1 _ (cm hlt)) (a2 _ (cm E))
 have N:Hid (∀o g,Bw wr ((wr.alloc o).alloc g)):=λo g=>((cd _ wr).alloc (bO _) o).alloc (by simp) g;obtain⟨da,dc,rfl,_⟩:=id F;obtain⟨ac,ad,rfl,_⟩:=id G;clear F G O Q R T;generalize hp:l[k]=p at*;generalize hq:m[k]=q at*;clear hp hq;obtain⟨p1,p2,p3,p4⟩:=p;obtain⟨q1,q2,q3,q4⟩:=q;dsimp only at*;by_cases hpq:(⟨p1,p2,p3,p4⟩:ag)=⟨q1,q2,q3,q4⟩
 .rw[decide_eq_true hpq]at n;have y:=Z hpq;clear hpq;go_wp2_with (go_at_call 104;(refine cc (n.o _ (N.o _ _)) ?_;rintro e w'⟨rfl,A⟩))
  go_roundw;exact⟨k+1,by omega,by go_num,by unfold Hid;rw[M.o.1,M.o.2,L.o,y.o],btr (r.o _ _) A (r.o _ _).size⟩;simp[intOf];omega
 rw[decide_eq_false hpq]at n;have y:=Z hpq;clear hpq;go_wp2_with (go_at_call 104;(refine cc (n.o _ (N.o _ _)) ?_;rintro e w'⟨rfl,A⟩))
 go_ret;exact⟨am (by symm;exact decide_eq_false (λh=>y (HQ h))),btr (r _ _) A (r _ _).size⟩
theorem AP(u v:cp)(r s:aG)(w:cj)(N:eK 0 w w u r)(O:eK 0 w w v s)(L:r.fields.length<=1000000)(M:s.fields.length<=1000000)(D:∀f∈r.fields,f.subs.length<=1000000)(E:∀f∈s.fields,f.subs.length<=1000000):
 cx prog 59 #[u,v] w λe w'=>e=bd (bl (decide (r=s)))/\Bw w w':=by
 obtain⟨j,m,k⟩:=r;obtain⟨t,n,l⟩:=s;obtain⟨x,rfl,g⟩:=N;obtain⟨y,rfl,i⟩:=O;unfold eG;dsimp only at*;have d:∀o b,Bw w ((w.alloc o).alloc b):=λo b=>((cd _ w).alloc (bO _) o).alloc (by simp) b;by_cases e1:j=t;rotate_left
 .have H:¬(j.toNat=t):=λe=>e1 (UInt8.toNat_inj.1 e);have p:Hid (decide ((⟨j,m,k⟩:aG)=⟨t,n,l⟩)=false):=decide_eq_false (λh=>e1 (by injection h));obtain⟨a,c,rfl⟩:=g.shape;obtain⟨A,C,rfl⟩:=i.shape;clear e1 g i;go_enter func59,ntmps59;go_wp2_with fail;go_ret;exact⟨am p.symm,d _ _⟩
 subst e1;by_cases e2:m=n
 .subst e2;have F:=Z (λo b=>uN x y k l ((w.alloc o).alloc b) ((g.kept (aW (d o b) (bO _))).mono (bO _) (d o b).size) ((i.kept (aW (d o b) (bO _))).mono (bO _) (d o b).size) L M D E);have G:Hid (decide ((⟨j,m,k⟩:aG)=⟨j,m,l⟩)=decide (k=l)):=by unfold Hid;simp
  obtain⟨a,c,rfl⟩:=g.shape;obtain⟨A,C,rfl⟩:=i.shape;have z:=Z d;clear d g i D E;generalize decide (k=l)=q at*;go_enter func59,ntmps59;go_wp2_with (go_at_call 103;(refine cc (F.o _ _) ?_;rintro e w'⟨rfl,I⟩))
  all_goals go_ret
  all_goals exact⟨am G.symm,(z _ _).trans (I.mono (z _ _).size)⟩
 have H:¬(m.toNat=n):=λe=>e2 (UInt8.toNat_inj.1 e);have p:Hid (decide ((⟨j,m,k⟩:aG)=⟨j,n,l⟩)=false):=decide_eq_false (λh=>e2 (by injection h));obtain⟨a,c,rfl⟩:=g.shape;obtain⟨A,C,rfl⟩:=i.shape;clear e2 g i;go_enter func59,ntmps59;go_wp2_with fail;go_ret;exact⟨am p.symm,d _ _⟩
theorem zq(w:cj):cx prog 32 #[] w λe w'=>e=bd (.pointer w)/\w'=w.alloc (bw #[bA Y,bA Y,bA Y,bB Y] 117):=by
 go_enter func32,ntmps32;go_wp2;go_ret;exact⟨rfl,rfl⟩
theorem qL(b n:Nat)(w:cj)(a:w.cell? b=X (bA (X n))):cx prog 57 #[.pointer b] w λe w'=>e=bd (.tuple #[])/\w=w':=by
 have c:∀(w:cj)(r:Option Nat),(binOp .eql 113 (.map r) (bA Y)).run prog w=.ok (bl r.isNone) w:=λw r=>run_eql_map_nil w 113 _ _ r underlying113;go_enter func57,ntmps57;go_wp2;go_end0
 exact⟨rfl,rfl⟩
theorem qM(b:Nat)(v:cp)(w:cj)(h:w.heap[b]?=X (bw #[bA Y,bA Y,bA Y,v] 117 (0,0))):cx prog 57 #[.pointer b] w λe w'=>e=bd (.tuple #[])/\
 w'=((((((w.alloc (.map #[] 0)).alloc (.map #[] 0)).alloc (.map #[] 0)).setCell b (bA (X w))).setCell ⟨b,1,Y⟩ (bA (X (w.heap.size+1)))).setCell ⟨b,2,Y⟩ (bA (X (w.heap.size+2)))):=by
 have d:w.cell? b=X (bA Y):=by rw[ab h];rfl
 have c1:w.cell? ⟨b,1,Y⟩=X (bA Y):=by rw[ab h];rfl
 have c2:w.cell? ⟨b,2,Y⟩=X (bA Y):=by rw[ab h];rfl
 have j:=ae h 0;have k:=ae h 1;have l:=ae h 2;have c:=af h;have a:(((w.alloc (.map #[] 0)).alloc (.map #[] 0)).alloc (.map #[] 0)).heap[b]?=X (bw #[bA Y,bA Y,bA Y,v] 117 (0,0)):=by rw[cg _ _ _ (by simp;omega),cg _ _ _ (by simp;omega),cg _ _ _ c];exact h
 have f:(((w.alloc (.map #[] 0)).alloc (.map #[] 0)).alloc (.map #[] 0)).cell? b=X (bA Y):=by rw[ab a];rfl
 have g:(((w.alloc (.map #[] 0)).alloc (.map #[] 0)).alloc (.map #[] 0)).cell? ⟨b,1,Y⟩=X (bA Y):=by rw[ab a];rfl
 have i:(((w.alloc (.map #[] 0)).alloc (.map #[] 0)).alloc (.map #[] 0)).cell? ⟨b,2,Y⟩=X (bA Y):=by rw[ab a];rfl
 have m:=ae a 0;have n:=ae a 1;have o:=ae a 2;clear a;clear h;have q:∀(w:cj)(r:Option Nat),(binOp .eql 113 (.map r) (bA Y)).run prog w=.ok (bl r.isNone) w:=λw r=>run_eql_map_nil w 113 _ _ r underlying113;have p:= @run_makeMap prog;go_enter func57,ntmps57;go_wp2;go_end0
 exact⟨rfl,rfl⟩
end
section
open Go.RowKit Go.Maps Go.Shelf
section
variable {P:Program} {kt:e9} {K:Type} [DecidableEq K] {B:eJ P kt K}
def cI(B:eJ P kt K)(w:cj)(mv:Option Nat)(l:List (K×cp)):Prop:=match mv with
 |none=>l=[]
 |some b=>an B w b l
theorem cI.block{w w':cj}{mv:Option Nat}{l:List (K×cp)}(h:cI B w mv l)(a:∀b,mv=X b->w'.heap[b]?=w.heap[b]?):cI B w' mv l:=by
 cases mv with
 |none=>exact h
 |some b=>exact an.block h (a b rfl)
theorem cI.look_ok{w:cj}{mv:Option Nat}{l:List (K×cp)}(h:cI B w mv l){t e:e9}(c:P.underlying t=X (.map kt e)){z:cp}(d:∀u:cj,(zeroValue e).run P u=.ok z u)(k:K)(a:B.ok k):
 (fz t (.map mv) (B.kv k) true).run P w=.ok (.tuple #[(lookL l k).getD z,bl (lookL l k).isSome]) w:=by
 cases mv with
 |none=> have h:l=[]:=h;subst h;rw[Maps.look_nil true B.keyed c (d w) (B.key k a)];rfl
 |some b=>exact an.look_ok h c (d w) k a
theorem cI.look{w:cj}{mv:Option Nat}{l:List (K×cp)}(h:cI B w mv l){t e:e9}(c:P.underlying t=X (.map kt e)){z:cp}(d:∀u:cj,(zeroValue e).run P u=.ok z u)(k:K)(a:B.ok k):
 (fz t (.map mv) (B.kv k) false).run P w=.ok ((lookL l k).getD z) w:=by
 cases mv with
 |none=> have h:l=[]:=h;subst h;rw[Maps.look_nil false B.keyed c (d w) (B.key k a)];rfl
 |some b=>exact an.look h c (d w) k a
theorem cI.len{w:cj}{mv:Option Nat}{l:List (K×cp)}(h:cI B w mv l){t e:e9}(c:P.underlying t=X (.map kt e))(a:e9):
 (Builtin.len_ #[t] a #[.map mv]).run P w=.ok l w:=by
 cases mv with
 |none=> have h:l=[]:=h;subst h;exact Maps.len_nil c a
 |some b=> obtain⟨g,d,f,_⟩:=h;have:=d.len c a;rw[an.size f]at this;exact this
theorem cI.lt{w:cj}{b:Nat}{l:List (K×cp)}(h:cI B w (X b) l):b<w:=an.lt h
theorem cI.ok{w:cj}{mv:Option Nat}{l:List (K×cp)}(h:cI B w mv l):∀p∈l,B.ok p.1:=by
 cases mv with
 |none=> have h:l=[]:=h;subst h;intro p a;cases a
 |some b=>exact an.ok h
end
theorem fN{K V:Type}[DecidableEq K](l:List (K×V))(f:V->cp)(k:K):lookL (l.map λp=>(p.1,f p.2)) k=(findK l k).map f:=by
 induction l with
 |nil=>rfl
 |cons p l ih=>
  unfold findK at ih ⊢;rw[er,dD,List.find?_cons];by_cases h:p.1=k
  .rw[if_pos h];simp[h]
  rw[if_neg h,ih];simp[h]
theorem BX{K V:Type}[DecidableEq K](l:List (K×V))(f:K->V->cp)(k:K):cK (l.map λp=>(p.1,f p.1 p.2)) k=(l.filter λp=> !decide (p.1=k)).map λp=>(p.1,f p.1 p.2):=by
 unfold cK;rw[List.filter_map];rfl
theorem jB{K V:Type}[DecidableEq K]{lt:K->K->Bool}(T:Tot lt){l:List (K×V)}(a:aH lt l)(f:K->V->cp)(k:K)(v:V):
 (putL (l.map λp=>(p.1,f p.1 p.2)) k (f k v)).Perm ((insL lt l k v).map λp=>(p.1,f p.1 p.2)):=by
 unfold putL;rw[BX];have:=(zD T a k v).map (λp=>(p.1,f p.1 p.2));rw[dx]at this;exact this
def li(k:RK)(n:Int)(r:aG)(x:cp):cp:=.agg #[k.1,k.2,n,J bk r.kind,J bk r.level,x]
abbrev VX:=(Int×aG)×cp
def ju(k:RK)(p:VX):cp:=li k p.1.1 p.1.2 p.2
def gJ(p:Int×Bool):cp:=.agg #[p.1,bl p.2]
theorem vQ{K V W:Type}[DecidableEq K](lt:K->K->Bool)(g:V->W)(l:List (K×V))(k:K)(v:V):(insL lt l k v).map (λp=>(p.1,g p.2))=insL lt (l.map λp=>(p.1,g p.2)) k (g v):=by
 induction l with
 |nil=>rfl
 |cons p l ih=>
  unfold insL;rw[er];dsimp only;by_cases h:lt p.1 k=true
  .rw[if_pos h,if_pos h,er,ih]
  rw[if_neg h,if_neg h];by_cases h2:p.1=k
  .rw[if_pos h2,if_pos h2];rfl
  rw[if_neg h2,if_neg h2];rfl
def dL(F:Nat->Prop)(w:cj)(p:RK×VX):Prop:=∃lo a,ah lo a w p.2.2 p.2.1.2.fields/\a<=w/\∀k,lo<=k->k<a->F k
theorem dL.step{F:Nat->Prop}{w w':cj}{p:RK×VX}(h:dL F w p)(f:∀k,F k->w'.heap[k]?=w.heap[k]?)(i:w.heap.size<=w'):dL F w' p:=by
 obtain⟨lo,e,d,g,c⟩:=h;exact⟨lo,e,d.kept (λk a b=>f k (c k a b)),by omega,c⟩
theorem dL.wide{F G:Nat->Prop}{w:cj}{p:RK×VX}(h:dL F w p)(f:∀k,F k->G k):dL G w p:=by
 obtain⟨lo,g,c,d,e⟩:=h;exact⟨lo,g,c,d,λk a b=>f k (e k a b)⟩
def jT(F:Nat->Prop)(w:cj)(mv:Option Nat)(a:VL):Prop:=
 ∃ps:List (RK×VX),ps.map (λp=>(p.1,p.2.1))=a/\cI recB w mv (ps.map λp=>(p.1,ju p.1 p.2))/\∀p∈ps,dL F w p
structure C6(w:cj)(b:Nat)(L:VL)(set:List Nat):Prop where
 ex:∃l,an recB w b l/\∀k,lookL l k=(atC L k).map λi=>recK (keyC L (set.getD i 0))
structure AB(F:Nat->Prop)(w:cj)(b:Nat)(L:VL)(set:List Nat):Prop where
 ex:∃l,an recB w b l/\(∀k,(lookL l k).isSome=true↔∃t,t<L.length/\set.getD t 0=t/\keyC L t=k)/\
  ∀t,t<L.length->set.getD t 0=t->∃v,lookL l (keyC L t)=some v/\∃g n cap,v=.slice (some ⟨g,0,none⟩) n cap/\F g/\eL 0 w w v (bg L set t)
def dv(F:Nat->Prop)(w:cj)(t:Nat)(L:VL)(set:List Nat):Prop:=
 ∃b a,w.heap[t]?=X (bw #[bA (X b),bA (X a)] 95 (0,0))/\F t/\F b/\F a/\C6 w b L set/\AB F w a L set
def Cf(F:Nat->Prop)(w:cj)(a:cp)(d:aB):Prop:=a=bB Y∨∃t,a=bB (X ⟨t,0,Y⟩)/\dv F w t (thereC d) (setsC d)
structure bp(d:aB):Prop where
 ok:d.Ok
 vlen:d.vs.length<=5000
 dlen:d.ds.length<=5000
 plen:d.ps.length<=5000
 right:∀p∈d.vs,wrongR p.2.2=0
 vnum:∀p∈d.vs,i64B p.2.1
 dnum:∀p∈d.ds,i64B p.2
 pnum:∀p∈d.ps,i64B p.2.1
 vkey:∀p∈d.vs,rkOk p.1
 dkey:∀p∈d.ds,rkOk p.1
 pkey:∀p∈d.ps,pkOk p.1
def restF(F:Nat->Prop)(c:Nat)(a b d:Option Nat)(k:Nat):Prop:=F k/\k≠c/\a≠X k/\b≠X k/\d≠X k
structure ed(F:Nat->Prop)(w:cj)(c:Nat)(m1 m2 m3:Option Nat)(kn:cp)(d:aB):Prop where
 blk:w.heap[c]?=some (.cells #[.map m1,.map m2,.map m3,kn] 117 (0,0))
 vs:jT (restF F c m1 m2 m3) w m1 d.vs
 ds:cI recB w m2 (d.ds.map λp=>(p.1,.int .i64 p.2))
 ps:cI pairB w m3 (d.ps.map λp=>(p.1,gJ p.2))
 kn:Cf (restF F c m1 m2 m3) w kn d
 fc:F c
 f1:∀m,m1=some m->F m
 f2:∀m,m2=some m->F m
 f3:∀m,m3=some m->F m
 one:(m1=none/\m2=none/\m3=none)∨∃a b e,m1=some a/\m2=some b/\m3=some e/\a≠b/\a≠e/\b≠e
 lt:∀k,F k->k<w
 ok:bp d
def bG(F:Nat->Prop)(w:cj)(c:Nat)(d:aB):Prop:=∃b e f a,ed F w c b e f a d
theorem jT.step{F:Nat->Prop}{w w':cj}{mv:Option Nat}{a:VL}(h:jT F w mv a)(g:∀b,mv=X b->w'.heap[b]?=w.heap[b]?)(f:∀k,F k->w'.heap[k]?=w.heap[k]?)(j:w.heap.size<=w'):jT F w' mv a:=by
 obtain⟨ps,c,d,e⟩:=h;exact⟨ps,c,d.block g,λp i=>(e p i).step f j⟩
theorem jT.wide{F G:Nat->Prop}{w:cj}{mv:Option Nat}{a:VL}(h:jT F w mv a)(e:∀k,F k->G k):jT G w mv a:=by
 obtain⟨ps,b,c,d⟩:=h;exact⟨ps,b,c,λp f=>(d p f).wide e⟩
theorem dv.step{F:Nat->Prop}{w w':cj}{t:Nat}{L:VL}{set:List Nat}(h:dv F w t L set)(f:∀k,F k->w'.heap[k]?=w.heap[k]?)(hz:w.heap.size<=w'):dv F w' t L set:=by
 obtain⟨s,r,z,m,o,p,⟨l,A,C⟩,⟨Q,D,E,G⟩⟩:=h;refine⟨s,r,(f t m).trans z,m,o,p,⟨l,A.block (f s o),C⟩,⟨Q,D.block (f r p),E,λt M T=>?_⟩⟩;obtain⟨v,N,g,n,u,i,q,I⟩:=G t M T;refine⟨v,N,g,n,u,i,q,?_⟩;subst i;obtain⟨a,c,d,h⟩:=I;refine⟨a,c,d,λH=>?_⟩;obtain⟨b,R,e,V,W,y⟩:=h H;injection d with d _ _
 rw[<- d]at e;injection e with e
 injection e with hb ho i
 subst hb;refine⟨g,R,by rw[<- d,ho],cl _,by omega,λj x O=>?_⟩;rw[gb (w:=w) (f g q)];exact y j x O
theorem dv.wide{F G:Nat->Prop}{w:cj}{t:Nat}{L:VL}{set:List Nat}(h:dv F w t L set)(a:∀k,F k->G k):dv G w t L set:=by
 obtain⟨y,x,c,d,e,f,i,⟨u,j,l,m⟩⟩:=h;refine⟨y,x,c,a _ d,a _ e,a _ f,i,⟨u,j,l,λt r z=>?_⟩⟩;obtain⟨v,s,g,n,b,q,o,p⟩:=m t r z;exact⟨v,s,g,n,b,q,a _ o,p⟩
theorem ed.step{F:Nat->Prop}{w w':cj}{c:Nat}{l m n:Option Nat}{j:cp}{d:aB}(h:ed F w c l m n j d)(a:∀k,F k->w'.heap[k]?=w.heap[k]?)(i:w.heap.size<=w'):ed F w' c l m n j d:=by
 refine⟨(a c h.fc).trans h.blk,h.vs.step (λb e=>a b (h.f1 b e)) (λk g=>a k g.1) i,h.ds.block (λb e=>a b (h.f2 b e)),h.ps.block (λb e=>a b (h.f3 b e)),?_,h.fc,h.f1,h.f2,h.f3,h.one,λk p=>cy (h.lt k p) i,h.ok⟩;rcases h.kn with f|⟨t,f,o⟩
 .exact .inl f
 exact .inr ⟨t,f,o.step (λk g=>a k g.1) i⟩
theorem bG.step{F:Nat->Prop}{w w':cj}{c:Nat}{d:aB}(h:bG F w c d)(a:∀k,F k->w'.heap[k]?=w.heap[k]?)(b:w.heap.size<=w'):bG F w' c d:=by
 obtain⟨f,g,i,e,h⟩:=h;exact⟨f,g,i,e,h.step a b⟩
theorem ed.below{F:Nat->Prop}{w w':cj}{c:Nat}{e f g:Option Nat}{b:cp}{d:aB}(h:ed F w c e f g b d)(a:Bw w w'):ed F w' c e f g b d:=
 h.step (λk i=>a.block k (h.lt k i)) a.size
theorem bG.below{F:Nat->Prop}{w w':cj}{c:Nat}{d:aB}(h:bG F w c d)(a:Bw w w'):bG F w' c d:=by
 obtain⟨e,f,g,b,h⟩:=h;exact⟨e,f,g,b,h.below a⟩
theorem qI:bp cat0:=by
 refine⟨⟨.nil,.nil,.nil,?_⟩,?_,?_,?_,?_,?_,?_,?_,?_,?_,?_⟩<;>simp[cat0]
theorem vG(w:cj):bG (λk=>k=w) (w.alloc (bw #[bA Y,bA Y,bA Y,bB Y] 117)) w cat0:=by
 refine⟨Y,Y,Y,bB Y,cb w _,⟨[],rfl,rfl,?_⟩,rfl,rfl,.inl rfl,rfl,?_,?_,?_,.inl ⟨rfl,rfl,rfl⟩,λk b=>by rw[b];simp,qI⟩
 .intro p c;cases c
 .intro m a;cases a
 .intro m a;cases a
 intro m a;cases a
theorem an.empty{P:Program}{kt:e9}{K:Type}[DecidableEq K]{B:eJ P kt K}{w:cj}{b:Nat}(h:w.heap[b]?=X (.map #[] 0)):an B w b []:=by
 obtain⟨d,⟨e,c,a,f⟩,g⟩:=an.made (B:=B) w;rw[cb]at a;exact⟨d,⟨e,c,h.trans a,f⟩,g⟩
theorem ak{w:cj}{b c:Nat}{d:Array cp}{t:e9}{P:Program}{kt:e9}{K:Type}[DecidableEq K]{B:eJ P kt K}{l:List (K×cp)}(f:an B w b l)(e:w.heap[c]?=X (bw d t (0,0))):b≠c:=by
 rintro rfl;obtain⟨g,⟨h,k,a,_⟩,_⟩:=f;rw[e]at a;cases a
theorem im{F:Nat->Prop}{w:cj}{c:Nat}{m1 m2 m3:Option Nat}{s:cp}{d:aB}(h:ed F w c m1 m2 m3 s d):
 cx prog 57 #[.pointer c] w λe w'=>e=bd (.tuple #[])/\∃x a b y,ed x w' c (X a) (X b) (X y) s d/\ai F w x w':=by
 rcases h.one with⟨rfl,rfl,rfl⟩|⟨a,b,e,rfl,rfl,rfl,a3,a4,a5⟩;rotate_left
 .refine(qL c a w ((ab h.blk 0).trans rfl)).mono ?_;rintro y w'⟨rfl,rfl⟩;exact⟨rfl,F,a,b,e,h,ai.refl _ _⟩
 refine(qM c s w h.blk).mono ?_;rintro e w'⟨rfl,rfl⟩;obtain⟨i,n⟩:=Qe (((w.alloc (.map #[] 0)).alloc (.map #[] 0)).alloc (.map #[] 0));have Q:=h.lt c h.fc;have a2:i.heap.size=w+3:=by rw[<- n];simp
 have A:∀k,k<w.heap.size->i.heap[k]?=w.heap[k]?:=λk f=>by rw[<- n,cg _ _ _ (by simp;omega),cg _ _ _ (by simp;omega),cg _ _ _ f]
 have L:i.heap[w.heap.size]?=X (.map #[] 0):=by rw[<- n,cg _ _ _ (by simp;omega),cg _ _ _ (by simp)];exact cb w _
 have M:i.heap[w.heap.size+1]?=X (.map #[] 0):=by rw[<- n,cg _ _ _ (by simp)];have:=cb (w.alloc (.map #[] 0)) (.map #[] 0);rwa[cq]at this
 have O:i.heap[w.heap.size+2]?=X (.map #[] 0):=by rw[<- n];have:=cb ((w.alloc (.map #[] 0)).alloc (.map #[] 0)) (.map #[] 0);rwa[cq,cq]at this
 rw[n];obtain⟨l,o⟩:=Qe (((i.setCell c (bA (X w))).setCell ⟨c,1,Y⟩ (bA (X (w.heap.size+1)))).setCell ⟨c,2,Y⟩ (bA (X (w.heap.size+2))));have a6:l.heap.size=w+3:=by rw[<- o];simp[a2]
 have r:∀k,k≠c->l.heap[k]?=i.heap[k]?:=λk f=>by rw[<- o,ch _ _ _ _ f,ch _ _ _ _ f,ch _ _ _ _ f]
 have R:l.heap[c]?=X (bw #[bA (X w),bA (X (w.heap.size+1)),bA (X (w.heap.size+2)),s] 117 (0,0)):=by rw[<- o];have C:=aA ((A c Q).trans h.blk) 0 (bA (X w));have D:=aA C 1 (bA (X (w.heap.size+1)));have E:=aA D 2 (bA (X (w.heap.size+2)));exact E
 rw[o];have v:∀j,w+j≠c:=λj=>by omega
 have G:l.heap[w.heap.size]?=X (.map #[] 0):=(r _ (v 0)).trans L;have H:l.heap[w.heap.size+1]?=X (.map #[] 0):=(r _ (v 1)).trans M;have I:l.heap[w.heap.size+2]?=X (.map #[] 0):=(r _ (v 2)).trans O;have z:∀k,k<w.heap.size->k≠c->l.heap[k]?=w.heap[k]?:=λk f V=>(r k V).trans (A k f);obtain⟨ps,q1,q2,q3⟩:=h.vs;have a1:ps=[]:=by simpa using(show ps.map (λp=>(p.1,ju p.1 p.2))=[]from q2)
 subst a1;have T:d.ds=[]:=by simpa using(show d.ds.map (λp=>(p.1,e8 U p.2))=[]from h.ds)
 have a0:d.ps=[]:=by simpa using(show d.ps.map (λp=>(p.1,gJ p.2))=[]from h.ps)
 have W:∀k,F k->k<w:=h.lt;refine⟨rfl,λk=>F k∨k=w∨k=w+1∨k=w+2,w,w.heap.size+1,w.heap.size+2,?_,?_⟩
 .refine⟨R,⟨[],q1,an.empty G,(by intro p hp;cases hp)⟩,?_,?_,?_,.inl h.fc,?_,?_,?_,.inr ⟨_,_,_,rfl,rfl,rfl,by omega,by omega,by omega⟩,?_,h.ok⟩
  .rw[T];exact an.empty H
  .rw[a0];exact an.empty I
  .rcases h.kn with u|⟨t,u,N⟩
   .exact .inl u
   refine .inr ⟨t,u,(N.step (λk q=>z k (h.lt k q.1) q.2.1) (by omega)).wide λk q=>?_⟩;have:=h.lt k q.1;exact⟨.inl q.1,q.2.1,λe=>by injection e with e;omega,λe=>by injection e with e;omega,λe=>by injection e with e;omega⟩
  .intro m g;injection g with g;exact .inr (.inl g.symm)
  .intro m g;injection g with g;exact .inr (.inr (.inl g.symm))
  .intro m g;injection g with g;exact .inr (.inr (.inr g.symm))
  intro k f;rcases f with f|f|f|f
  .have:=W k f;omega
  all_goals omega
 refine⟨?_,?_,?_,by omega,?_,?_⟩
 .rw[<- o,<- n];rfl
 .rw[<- o,<- n];rfl
 .rw[<- o,<- n];rfl
 .intro k f hn;exact z k f λe=>hn (e▸h.fc)
 intro k f;rcases f with f|f|f|f
 .exact .inl f
 all_goals exact .inr (by omega)
end
section
open Go.RowKit Go.Maps Go.Shelf
theorem yk:∀u:cj,(zeroValue 3).run prog u=.ok (J U 0) u:=λu=>by kernel_rfl
theorem iq:∀u:cj,(zeroValue 139).run prog u=.ok (.agg #[J U 0,bl false]) u:=λu=>by kernel_rfl
theorem lL:∀u:cj,(zeroValue 64).run prog u=.ok (.agg #[J U 0,J U 0,J U 0,J bk 0,J bk 0,bv Y 0 0]) u:=λu=>by kernel_rfl
theorem mz(q:Bool)(a b:Int)(m:Nat):bh false q a b m=bh false false a b m:=by unfold bh;simp
def dU(d:aB)(k:RK)(n:Int):Int:=bh (findK d.ds k).isSome (decide ((findK d.ds k).getD 0=n)) ((findK d.ds k).getD 0) n d.ds
theorem qB(d:aB)(k:RK)(n:Int):dropC d k n=if dU d k n=0 then({d with ds:=insL ltRK d.ds k n},0)else(d,dU d k n):=by
 unfold dropC dU;cases findK d.ds k with
 |none=>simp only[Option.isSome_none,Option.getD_none];rw[mz (decide (0=n))]
 |some m=>rfl
theorem gk{t q:Bool}{a b:Int}{m:Nat}(h:bh t q a b m=0)(c:t=false):m<5000:=by
 subst c;unfold bh at h;simp only[Bool.false_and,Bool.false_eq_true,if_false,Bool.not_false,Bool.true_and]at h;by_cases h5:5000<=m
 .simp[h5]at h
 omega
theorem fv{K V:Type}[DecidableEq K]{lt:K->K->Bool}(l:List (K×V))(k:K)(v:V):(insL lt l k v).length<=l+1:=by
 induction l with
 |nil=>simp[insL]
 |cons p l ih=>
  unfold insL;split
  .simp only[cz];omega
  split
  .simp only[cz];omega
  simp only[cz];omega
theorem sA{K V:Type}[DecidableEq K]{lt:K->K->Bool}(T:Tot lt){l:List (K×V)}(b:aH lt l)(k:K)(v:V)(h:(findK l k).isSome=true):(insL lt l k v).length=l:=by
 induction l with
 |nil=>simp[findK]at h
 |cons p l ih=>
  obtain⟨c,d⟩:=List.pairwise_cons.1 b;unfold insL;by_cases hp:lt p.1 k=true
  .rw[if_pos hp];have f:p.1≠k:=by intro e;rw[e,T.irr]at hp;cases hp
   have:(findK l k).isSome=true:=by unfold findK at h ⊢;rw[List.find?_cons]at h;simpa[f]using h
   simp only[cz];rw[ih d this]
  rw[if_neg hp];by_cases hk:p.1=k
  .rw[if_pos hk];rfl
  exfalso;rw[Option.isSome_iff_exists]at h;obtain⟨x,a⟩:=h;rw[fh T b]at a;rcases List.mem_cons.1 a with a|a
  .exact hk (by rw[<- a])
  exact hp (c _ a)
theorem qp{K V:Type}[DecidableEq K]{lt:K->K->Bool}(T:Tot lt){l:List (K×V)}(b:aH lt l)(k:K)(v:V)(a:l.length<=5000)(h:(findK l k).isSome=false->l.length<5000):(insL lt l k v).length<=5000:=by
 cases hf:(findK l k).isSome
 .have:=fv (lt:=lt) l k v;have:=h hf;omega
 rw[sA T b k v hf];exact a
theorem cZ{K V:Type}[DecidableEq K]{lt:K->K->Bool}(T:Tot lt){l:List (K×V)}(d:aH lt l){k:K}{v:V}{R:K×V->Prop}(h:∀p∈l,R p)(b:R (k,v)):∀p∈insL lt l k v,R p:=λp c=>by
 rcases(qm T d k v p).1 c with rfl|⟨a,_⟩
 .exact b
 exact h p a
theorem bp.drop{d:aB}(h:bp d){k:RK}{n:Int}(b:rkOk k)(hn:i64B n)(c:dU d k n=0):bp {d with ds:=insL ltRK d.ds k n}:=by
 refine⟨⟨h.ok.vs,ff aY h.ok.ds k n,h.ok.ps,h.ok.apart⟩,h.vlen,?_,h.plen,h.right,h.vnum,cZ aY h.ok.ds h.dnum hn,h.pnum,h.vkey,cZ aY h.ok.ds h.dkey b,h.pkey⟩;exact qp aY h.ok.ds k n h.dlen λa=>gk c a
theorem ed.put2{F:Nat->Prop}{w j:cj}{c a b e:Nat}{D:cp}{d:aB}{ds:List (RK×Int)}(h:ed F w c (X a) (X b) (X e) D d)(o:aF b w j)(i:an recB j b (ds.map λp=>(p.1,J U p.2)))(A:bp {d with ds:=ds}):
 ed F (j.setCell ⟨c,3,Y⟩ (bB Y)) c (X a) (X b) (X e) (bB Y) {d with ds:=ds}:=by
 have t:c≠b:=λe=>(ak (show an recB w b _ from h.ds) h.blk) e.symm;have x:c≠a:=λe=>by obtain⟨ps,_,g,_⟩:=h.vs;exact(ak (show an recB w a _ from g) h.blk) e.symm
 have y:c≠e:=λq=>(ak (show an pairB w e _ from h.ps) h.blk) q.symm;rcases h.one with⟨f,_⟩|⟨E,G,q,f,g,l,r,v,s⟩
 .cases f
 injection f with f;injection g with g;injection l with l
 subst f;subst g;subst l;have n:∀k,k≠c->k≠b->(j.setCell ⟨c,3,Y⟩ (bB Y)).heap[k]?=w.heap[k]?:=λk f g=>(ch _ _ _ _ f).trans (o.block k g);have C:(j.setCell ⟨c,3,Y⟩ (bB Y)).heap.size=w:=by rw[cQ,o.size]
 refine⟨?_,h.vs.step (λm i=>by injection i with i;subst i;exact n _ (Ne.symm x) r) (λk u=>n k u.2.1 (λe=>u.2.2.2.1 (by rw[e]))) (by omega),?_,?_,.inl rfl,h.fc,h.f1,h.f2,h.f3,.inr ⟨a,b,e,rfl,rfl,rfl,r,v,s⟩,λk z=>by rw[C];exact h.lt k z,A⟩
 .exact aA ((o.block c t).trans h.blk) 3 (bB Y)
 .exact i.block (ch _ _ _ _ (Ne.symm t))
 exact an.block (show an pairB w e _ from h.ps) (n e (Ne.symm y) (Ne.symm s))
theorem vV(F:Nat->Prop)(w:cj)(c:Nat)(d:aB)(h:bG F w c d)(k:RK)(n:Int)(T:rkOk k)(hn:i64B n):
 cx prog 27 #[.pointer c,recK k,n] w λe w'=>e=bd (J U (dropC d k n).2)/\∃l,bG l w' c (dropC d k n).1/\ai F w l w':=by
 have a1:=Z (qB d k n);obtain⟨m1,m2,m3,kn,h⟩:=h;obtain⟨f,g⟩:=k;unfold recK;dsimp only;obtain⟨i,Q⟩:=Qe (w.alloc (bw #[f,g] 36));have R:Bw w i:=by rw[<- Q];exact(cd _ w).alloc (bO _) _
 have D:i.heap[w.heap.size]?=X (bw #[f,g] 36 (0,0)):=by rw[<- Q];exact cb w _
 have q:=h.below R;have c1:i.cell? ⟨c,1,Y⟩=X (.map m2):=(ab q.blk 1).trans rfl;have b0:i.cell? w=X (J U f):=(ab D 0).trans rfl;have b1:i.cell? ⟨w,1,Y⟩=X (J U g):=(ab D 1).trans rfl;have V:=cI.look_ok (w:=i.drew) (q.ds.block (λ_ _=>rfl)) underlying114 yk (f,g) T;have av:=λty=>cI.len (w:=i.drew) (q.ds.block (λ_ _=>rfl)) underlying114 ty;rw[fN d.ds (λn=>e8 U n)]at V;rw[dy]at av;have aT:(fz 114 (.map m2) (.agg #[f,g]) true).run prog i.drew=.ok (.tuple #[((findK d.ds (f,g)).getD 0),bl (findK d.ds (f,g)).isSome]) i.drew:=by refine Eq.trans V ?_;cases findK d.ds (f,g)<;>rfl
 have HX:Hid (dU d (f,g) n=bh (findK d.ds (f,g)).isSome (decide ((findK d.ds (f,g)).getD 0=n)) ((findK d.ds (f,g)).getD 0) n d.ds):=rfl;have ad:Hid (dU d (f,g) n=0->bp {d with ds:=insL ltRK d.ds (f,g) n}):=h.ok.drop T hn;clear V;generalize(findK d.ds (f,g)).isSome=there at*;generalize(findK d.ds (f,g)).getD 0=old at*;generalize d.ds.length=many at*;have N:Hid (∀W,cx prog 56 #[bl there,bl (decide (old=n)),old,n,many] W λe w'=>e=bd (dU d (f,g) n)/\W=w'):=λW=>by rw[HX.o];exact gZ _ _ _ _ _ W
 have HH:=Z q;have a0:=Z R;have HB:=Z D;have a2:Hid (i.heap.size=w+1):=by unfold Hid;rw[<- Q];simp
 have aa:=Z h.lt;have aS:c<w:=h.lt c h.fc;clear h q R D;by_cases hx:dU d (f,g) n=0;rotate_left
 .have C:=Z hx;have b3:((dU d (f,g) n)==0)=false:=by simpa using hx
  generalize dU d (f,g) n=x at*;go_enter func27,ntmps27;go_wp2;go_region;go_wp2_with (go_at_call 56;(refine cc (N.o _) ?_;rintro e w2⟨rfl,rfl⟩))
  go_ret;rw[a1.o,if_neg C.o];exact⟨rfl,F,⟨_,_,_,_,HH.below (cd _ i).drew⟩,ai.of_below a0.drew⟩
 rw[hx]at N;have C:=Z hx;clear hx;go_enter func27,ntmps27;go_wp2;go_region
 go_wp2_with (first
  |(go_at_call 56;((with_reducible refine cc (N.o _) ?_);rintro e w2⟨rfl,rfl⟩))
  |(go_at_call 57;((with_reducible refine cc (im (HH.o.below (cd _ i).drew)) ?_);rintro e m⟨rfl,l,a,b,e',t,H⟩)))
 have a6:¬F w:=λhf=>by have:=aa.o _ hf;omega
 have b2:¬l w:=H.not (by have:=a2.o;show w.heap.size<i;omega) a6;have O:m.heap[w.heap.size]?=X (bw #[f,g] 36 (0,0)):=(H.block _ (by have:=a2.o;show w.heap.size<i;omega) a6).trans HB.o;have G:an recB m b _:=t.ds;obtain⟨st,au,ao,a7,a3,o,a9⟩:=an.entry (w:=m.drew) (an.drew G) hU underlying114 yk (f,g) T (by rw[dy];have:=t.ok.dlen;unfold maxLen;omega);have L:c≠b:=λe=>(ak G t.blk) e.symm;have E:w≠b:=λe=>(ak G O) e.symm;have y:m.drew.cell? ⟨c,1,Y⟩=X (bA (X b))/\m.drew.cell? w=X (J U f)/\m.drew.cell? ⟨w,1,Y⟩=X (J U g):=⟨(ab t.blk 1).trans rfl,(ab O 0).trans rfl,(ab O 1).trans rfl⟩;have s:=Z t;have al:=Z H;clear t H G;go_wp2_with fail;refine wT (λw'=>w'.cell? ⟨c,1,Y⟩=X (bA (X b))/\w'.cell? w=X (J U f)/\w'.cell? ⟨w,1,Y⟩=X (J U g)) 12 ?_;refine Qb [0,4,5,6,1,2,3] y (λw' h=>h) ?_;refine Dp 7 λK j=>?_;refine bH rfl a7 ?_;have u:=And.intro ((o.cell (p:=⟨c,1,Y⟩) L).trans y.1) (And.intro ((o.cell (p:=w) E).trans y.2.1) ((o.cell (p:=⟨w,1,Y⟩) E).trans y.2.2));generalize Go.ChangeMaps.setBlock m.drew b (.map au ao)=w4 at*;refine j _ _ (λ_=>u) ?_;clear j K;go_simp;refine Qb [8] u (λw' h=>h) ?_
 refine Dp 9 λK j=>?_;obtain⟨r,a8,a5,A⟩:=a9 w4 n a3;refine bj rfl a8 ?_;have I:=And.intro ((A.cell (p:=⟨c,1,Y⟩) L).trans u.1) (And.intro ((A.cell (p:=w) E).trans u.2.1) ((A.cell (p:=⟨w,1,Y⟩) E).trans u.2.2));refine j _ _ (λ_=>I) ?_;clear j K;go_simp;refine Ds 10 I ?_;refine Qb [11] I (λw' h=>h) ?_
 have z:aF b m r:=(aF.trans ⟨o.os,o.tape,o.output,o.size,o.block⟩ A);have a4:an recB r b ((insL ltRK d.ds (f,g) n).map λp=>(p.1,e8 U p.2)):=a5.perm (jB aY s.ok.ok.ds (λ_ v=>e8 U v) (f,g) n);have hF:=s.put2 z a4 (ad C.o);have c3:r.cell? ⟨c,3,Y⟩=X kn:=(z.cell (p:=⟨c,3,Y⟩) L).trans ((ab s.blk 3).trans rfl);have f3:r.frozen? ⟨c,3,Y⟩=false:=(z.frozen (p:=⟨c,3,Y⟩) L).trans (ae s.blk 3);have HF:=Z hF;have ac:=Z z;clear hF y u I a5 a4 a8 A o a9 a7 a3 z;refine Dl 12 ?_;go_wp2_with fail;go_ret;rw[a1.o,if_pos C.o];refine⟨rfl,l,⟨_,_,_,_,HF.o⟩,?_⟩;have ax:ai F w F i.drew:=ai.of_below a0.drew;have ay:ai F i.drew l m:=al.o;have az:ai l m l r:=ai.of_only ac.o (s.f2 b rfl);have aC:ai l r l (r.setCell ⟨c,3,Y⟩ (bB Y)):=ai.of_only (aF.setCell (aF.refl c r) 3 _) s.fc;exact((ax.trans ay).trans az).trans aC
end
end Go.Proofs.YtjcimanddakkaaaGreatDoor
