/- Lemmas. -/
import Derived.Test.YtjcimanddakkaaaGreatDoorX0
import Derived.Test.YtjcimanddakkaaaGreatDoorX14
import Derived.Test.YtjcimanddakkaaaGreatDoorX18
import Derived.Test.YtjcimanddakkaaaGreatDoorX19
import Derived.Test.YtjcimanddakkaaaGreatDoorX20
import Derived.Test.YtjcimanddakkaaaGreatDoorX22
set_option maxRecDepth 100000
set_option maxHeartbeats 8000000
namespace Go.Proofs.YtjcimanddakkaaaGreatDoor
open Go.Lib renaming hid→a0a
open _root_.Nat renaming le_refl→a0b,le_trans→a0d,lt_of_lt_of_le→a0u,zero_le→a0A,mul_le_mul→a0D
open _root_.List renaming length_map→a0c,getD_eq_getElem?_getD→a0e,mem_singleton→a0f,replicate→a0g,getElem?_eq_getElem→a0j,mem_append→a0k,length_append→a0l,getElem_set_self→a0n,getElem_mem→a0p,range→a0t,take_succ_eq_append_getElem→a0v,pairwise_map→a0w,nodup_append→a0x,getElem?_map→a0y,take_of_length_le→a0E,getElem?_eq_none→a0G,length_flatMap→a0H
open Go renaming Value→a0h,World→a0o
open Go.Proofs.Tryz renaming prog→a0i
open Go.RowKit.Below renaming refl→a0m
open Go.RowKit renaming Below→a0q
open Go.Obj renaming cells→a0r,noConfusion→a0z
open Go.World.ownsRow renaming form→a0s
open Go.Value renaming bool→a0B
open Go.Calls renaming mono→a0C
open Go.World renaming alloc_heap_new→a0F,ownsRow_nil→a0I
section
open Go.RowKit Go.Maps Go.Shelf
def gm (l:List aB) (q:Nat) (a:List Bs) (s:Bs) (i:Nat):Prop:=i<q/\s∈rawR (l.getD i rec0).fields∨i=q/\s∈a
theorem jx (l:List aB) (p:Nat×Nat):cameR l 0 [] p=false:=by unfold cameR;simp
theorem vI {l:List aB} {q:Nat} {d:List Bs} {s:Bs} (g:s∉d) (p:Nat×Nat):cameR l q (d++[s]) p=true↔cameR l q d p=true∨p.2=q/\gm l q d s p.1:=by
 unfold cameR gm;simp only [Bool.and_eq_true,Bool.or_eq_true,decide_eq_true_eq,List.any_append,List.any_cons,List.any_nil,Bool.or_false,List.contains_iff_mem];constructor
 · rintro ⟨c,⟨a,b⟩|⟨a,b|b⟩⟩
   · exact .inl ⟨c, .inl ⟨a,b⟩⟩
   · exact .inl ⟨c, .inr ⟨a,b⟩⟩
   · exact .inr ⟨a, .inl ⟨by omega,b⟩⟩
 · rintro (⟨c,a|⟨a,b⟩⟩|⟨a,⟨b,e⟩|⟨_,e⟩⟩)
   · exact ⟨c, .inl a⟩
   · exact ⟨c, .inr ⟨a, .inl b⟩⟩
   · exact ⟨by omega, .inr ⟨a, .inr e⟩⟩
   · exact absurd e g
theorem nk (l:List aB) (q:Nat) (p:Nat×Nat):cameR l (q+1) [] p=true↔cameR l q (keysR (l.getD q rec0).fields) p=true:=by
 unfold cameR;have g:=(gI (l.getD q rec0).fields).2;simp only [Bool.and_eq_true,Bool.or_eq_true,decide_eq_true_eq,List.any_nil,Bool.false_eq_true,and_false,or_false,List.any_eq_true,List.contains_iff_mem];constructor
 · rintro ⟨c,h,x,b,a⟩;by_cases e:p.2<q
   · exact ⟨c, .inl ⟨e,x,b,a⟩⟩
   · have d:p.2=q:=by omega
     rw [d] at a;exact ⟨c, .inr ⟨d,x,(g x).2 a,b⟩⟩
 · rintro ⟨c,⟨e,x,b,a⟩|⟨e,x,b,a⟩⟩
   · exact ⟨c,by omega,x,b,a⟩
   · refine ⟨c,by omega,x,a,?_⟩;rw [e];exact (g x).1 b
theorem xr (l:List aB) (q:Nat) (s:Bs) (i:Nat):gm l (q+1) [] s i↔gm l q (keysR (l.getD q rec0).fields) s i:=by
 unfold gm;have b:=(gI (l.getD q rec0).fields).2;simp only [List.not_mem_nil,and_false,or_false];constructor
 · rintro ⟨d,a⟩;by_cases e:i<q
   · exact .inl ⟨e,a⟩
   · have c:i=q:=by omega
     subst c;exact .inr ⟨rfl,(b s).2 a⟩
 · rintro (⟨d,a⟩|⟨rfl,a⟩)
   · exact ⟨by omega,a⟩
   · exact ⟨by omega,(b s).1 a⟩
theorem xq (l:List aB) (q:Nat) (c:List Bs) (s t:Bs) (i:Nat):gm l q (c++[s]) t i↔gm l q c t i∨t=s/\i=q:=by
 unfold gm;simp only [a0k,a0f];constructor
 · rintro (h|⟨b,a|a⟩)
   · exact .inl (.inl h)
   · exact .inl (.inr ⟨b,a⟩)
   · exact .inr ⟨a,b⟩
 · rintro ((h|⟨b,a⟩)|⟨b,a⟩)
   · exact .inl h
   · exact .inr ⟨b, .inl a⟩
   · exact .inr ⟨a, .inr b⟩
theorem uM {K:Type} [DecidableEq K] (l:List K) (k:K):∃a:List K,putL (l.map λs=>(s,a0B true)) k (.bool true)=a.map (λs=>(s,a0B true))/\(∀s,s∈a↔s∈l∨s=k)/\a.length<=l.length+1:=by
 refine ⟨l.filter (λs=> !decide (s=k))++[k],?_,λs=>?_,by have:=List.length_filter_le (λs=> !decide (s=k)) l;simp;omega⟩
 · unfold putL cB;rw [List.filter_map,List.map_append];rfl
 · simp only [a0k,List.mem_filter,a0f,Bool.not_eq_true',decide_eq_false_iff_not];constructor
   · rintro (⟨h,_⟩|h)
     · exact .inl h
     · exact .inr h
   · rintro (h|h)
     · by_cases e:s=k
       · exact .inr e
       · exact .inl ⟨h,e⟩
     · exact .inr h
theorem vO {P:Program} {e:TypeId} {K:Type} [DecidableEq K] {B:dZ P e K} {w:a0o} {b:Nat} {l:List K} (h:ak B w b (l.map λs=>(s, .bool true))) (k:K):∃z:Bool,(z=true↔k∈l)/\(lookL (l.map λs=>(s,a0B true)) k).getD (.bool false)= .bool z:=by
 by_cases hm:k∈l
 · exact ⟨true,⟨λ_=>hm,λ_=>rfl⟩,by rw [(bu h.nodup).2 (List.mem_map.2 ⟨k,hm,rfl⟩)];rfl⟩
 · exact ⟨false,⟨λh=>(by cases h),λh=>absurd h hm⟩,by
    rw [gH.2 (λv d=>by
     obtain ⟨s,c,a⟩:=List.mem_map.1 d;injection a with h1 _
     exact hm (h1 ▸ c))]
    rfl⟩
theorem A8:(Tryz.prog.info? 208).map (λi=>(i.zero,i.size,i.bytes))=some (some (.agg #[.map none, .string ⟨#[]⟩, .slice none 0 0, .int .i64 0, .int .u8 0]),5,64):=by kernel_rfl
theorem i67:(Tryz.prog.info? 67).map (λi=>(i.zero,i.size,i.bytes))=some (some (.agg #[.int .i64 0, .int .i64 0]),2,16):=by kernel_rfl
theorem i3:(Tryz.prog.info? 3).map (λi=>(i.zero,i.size,i.bytes))=some (some (.int .i64 0),1,8):=by kernel_rfl
structure FT where
 a:Option Nat
 b:Bs
 c:Option Addr
 c1:Nat
 c2:Nat
 d:Int
 e:UInt8
def ftCells (t:FT):List a0h:=[.map t.a,S t.b, .slice t.c t.c1 t.c2, .int .i64 t.d, .int .u8 t.e.toNat]
def ftV (t:FT):a0h:= .agg #[.map t.a,S t.b, .slice t.c t.c1 t.c2, .int .i64 t.d, .int .u8 t.e.toNat]
def ft0:FT:=⟨none,[],none,0,0,0,0⟩
def AE (f:Nat) (w:a0o) (g:Nat):Prop:=(f<=g/\∃a c,w.heap[g]? =some (.map a c))∨∃c,w.heap[g]? =some (.cells c 9 (0,0))
theorem ak.mp {P:Program} {e:TypeId} {K:Type} [DecidableEq K] {B:dZ P e K} {w:a0o} {b:Nat} {l:List (K×a0h)} (h:ak B w b l):∃a c,w.heap[b]? =some (.map a c):=by
 obtain ⟨a,⟨g,c,d,_⟩,_⟩:=h;exact ⟨_,_,d⟩
theorem bU.kept {f:Nat} {w w':a0o} {v:a0h} {r:aB} (h:bU f w v r) (i:∀g,AE f w g->w'.heap[g]? =w.heap[g]?):bU f w' v r:=by
 obtain ⟨b,n,c,a,rfl,e,⟨l,d,k⟩,j⟩:=h;exact ⟨b,n,c,a,rfl,e,⟨l,d.block (i b (.inl ⟨e,d.mp⟩)),k⟩,ah j (λg m=>i g (.inr (aD j m)))⟩
theorem bU.mono {f d:Nat} {w:a0o} {v:a0h} {r:aB} (h:bU f w v r) (e:d<=f):bU d w v r:=by
 obtain ⟨b,n,c,a,rfl,i,g,j⟩:=h;exact ⟨b,n,c,a,rfl,a0d e i,g,bE j e⟩
theorem bU.form {f:Nat} {w:a0o} {v:a0h} {r:aB} (h:bU f w v r):∃t,v=ftV t:=by
 obtain ⟨b,n,c,a,rfl,_⟩:=h;exact ⟨⟨some b,aO r.fields,a,n,c,bC r.fields,r.kind⟩,rfl⟩
theorem bU.below {f:Nat} {w w':a0o} {v:a0h} {r:aB} (h:bU f w v r) (a:a0q w.heap.size w w'):bU f w' v r:=
 h.kept λg b=>a.block g (by
  rcases b with ⟨_,d,c,h⟩|⟨c,h⟩
  · exact ae h
  · exact ae h)
def jC (f lo:Nat) (w:a0o) (KB:Nat) (l:List aB) (q:Nat):Prop:=
 ∃a:List FT,a.length=l.length/\w.ownsRow lo 208 5 (.slice (some ⟨KB,0,none⟩) l.length l.length) l.length (a.flatMap ftCells)/\∀i,i<q->bU f w (ftV (a.getD i ft0)) (l.getD i rec0)
theorem jC.blk {f lo:Nat} {w:a0o} {KB:Nat} {l:List aB} {q:Nat} (h:jC f lo w KB l q):(∃b,w.heap[KB]? =some (.cells b 208 (0,0)))/\KB<w.heap.size/\lo<=KB:=by
 obtain ⟨c,_,a,_⟩:=h;have:=a.lt KB rfl;exact ⟨aD a rfl,this.2,this.1⟩
theorem jC.kept {f lo:Nat} {w w':a0o} {KB:Nat} {l:List aB} {q:Nat} (h:jC f lo w KB l q) (d:w'.heap[KB]? =w.heap[KB]?) (k:∀g,AE f w g->w'.heap[g]? =w.heap[g]?):jC f lo w' KB l q:=by
 obtain ⟨m,a,b,c⟩:=h;exact ⟨m,a,ah b (λg e=>by
  have:KB=g:=by simpa [Value.ownBlock] using e
  exact this ▸ d),λi j=>(c i j).kept k⟩
theorem jC.get {f lo:Nat} {w:a0o} {KB:Nat} {l:List aB} {q:Nat} (h:jC f lo w KB l q) {i:Nat} (u:i<l.length):∃t:FT,(i<q->bU f w (ftV t) (l.getD i rec0))/\
 w.cell? ⟨KB,i * 5,none⟩=some (.map t.a)/\w.cell? ⟨KB,i * 5+1,none⟩=some (S t.b)/\w.cell? ⟨KB,i * 5+2,none⟩=some (.slice t.c t.c1 t.c2)/\w.cell? ⟨KB,i * 5+3,none⟩=some (.int .i64 t.d)/\w.cell? ⟨KB,i * 5+4,none⟩=some (.int .u8 t.e.toNat):=by
 obtain ⟨k,s,n,o⟩:=h;have m:i<k.length:=by omega
 refine ⟨k[i],λr=>?_,?_⟩
 · have:=o i r;rwa [a0e,a0j m] at this
 · have g:∀j,j<5->w.cell? ⟨KB,i * 5+j,none⟩=(ftCells k[i])[j]? :=λj p=>by rw [n.cellAt (i * 5+j) (by omega),de ftCells 5 (λ_=>rfl) k i m j p]
   exact ⟨(g 0 (by omega)).trans rfl,(g 1 (by omega)).trans rfl,(g 2 (by omega)).trans rfl,(g 3 (by omega)).trans rfl,(g 4 (by omega)).trans rfl⟩
theorem jC.frozen {f lo:Nat} {w:a0o} {KB:Nat} {l:List aB} {q:Nat} (h:jC f lo w KB l q) (j:Nat):w.frozen? ⟨KB,j,none⟩=false:=by
 obtain ⟨⟨b,a⟩,_⟩:=h.blk;exact ab a j
def putKn (W:a0o) (KB q:Nat) (t:FT):a0o:=((((W.setCell ⟨KB,q * 5,none⟩ (.map t.a)).setCell ⟨KB,q * 5+1,none⟩ (S t.b)).setCell ⟨KB,q * 5+2,none⟩ (.slice t.c t.c1 t.c2)).setCell ⟨KB,q * 5+3,none⟩ (.int .i64 t.d)).setCell ⟨KB,q * 5+4,none⟩ (.int .u8 t.e.toNat)
theorem ie (W:a0o) (KB q:Nat) (t:FT):aq KB W (putKn W KB q t):=(((((aq.refl KB W).setCell _ _).setCell _ _).setCell _ _).setCell _ _).setCell _ _
theorem jC.put {f lo:Nat} {w:a0o} {KB:Nat} {l:List aB} {q:Nat} (h:jC f lo w KB l q) (I:q<l.length) {t:FT} (y:bU f w (ftV t) (l.getD q rec0)):jC f lo (putKn w KB q t) KB l (q+1):=by
 have p:∀g,AE f w g->(putKn w KB q t).heap[g]? =w.heap[g]? :=λg x=>(ie w KB q t).block g (by
  rintro rfl;obtain ⟨⟨E,o⟩,_⟩:=h.blk;rcases x with ⟨_,F,c,h⟩|⟨c,h⟩
  · rw [o] at h;injection h with h;exact a0z h
  · rw [o] at h;injection h with h;injection h with _ h;exact absurd h (by decide))
 obtain ⟨j,r,s,u⟩:=h;have k:q<j.length:=by omega
 refine ⟨j.set q t,by simpa using r,?_,λi G=>?_⟩
 · have z:=(s.stored (q * 5) (.map t.a)).1;have A:=(z.stored (q * 5+1) (S t.b)).1;have B:=(A.stored (q * 5+2) (.slice t.c t.c1 t.c2)).1;have D:=(B.stored (q * 5+3) (.int .i64 t.d)).1;have m:=(D.stored (q * 5+4) (.int .u8 t.e.toNat)).1;have n:=ey ftCells 5 (λ_=>rfl) j q 0 (.map t.a) {j[q] with a:=t.a} k (by omega) rfl;rw [Nat.add_zero] at n;rw [n] at m
   rw [ey ftCells 5 (λ_=>rfl) _ q 1 (S t.b) ⟨t.a,t.b,j[q].c,j[q].c1,j[q].c2,j[q].d,j[q].e⟩ (by simpa using k) (by omega) (by rw [a0n];rfl),List.set_set,
    ey ftCells 5 (λ_=>rfl) _ q 2 (.slice t.c t.c1 t.c2) ⟨t.a,t.b,t.c,t.c1,t.c2,j[q].d,j[q].e⟩ (by simpa using k) (by omega) (by rw [a0n];rfl),List.set_set,
    ey ftCells 5 (λ_=>rfl) _ q 3 (.int .i64 t.d) ⟨t.a,t.b,t.c,t.c1,t.c2,t.d,j[q].e⟩ (by simpa using k) (by omega) (by rw [a0n];rfl),List.set_set,
    ey ftCells 5 (λ_=>rfl) _ q 4 (.int .u8 t.e.toNat) t (by simpa using k) (by omega) (by rw [a0n];rfl),List.set_set] at m
   exact m
 · by_cases e:i=q
   · subst e;rw [show (j.set i t).getD i ft0=t by rw [a0e,List.getElem?_set_self k];rfl];exact y.kept p
   · rw [show (j.set q t).getD i ft0=j.getD i ft0 by rw [a0e,List.getElem?_set_ne (λh=>e h.symm),a0e]];exact (u i (by omega)).kept p
def fN (a:List Nat):List a0h:=a.map λi:Nat=>Value.int .i64 (i:Int)
def zL (lo:Nat) (w:a0o) (BY:Nat) (H:Bs->Nat->Prop) (N:Nat):Prop:=
 ∃m:List (Bs×a0h),ak rR w BY m/\m.length<=N/\(∀s,lookL m s=none->∀i,¬H s i)/\(∀s v,lookL m s=some v->∃a:List Nat,w.ownsRow lo 3 1 v a.length (fN a)/\a.Nodup/\∀i,i∈a↔H s i)/\
  ∀b c d e,lookL m b=some d->lookL m c=some e->b≠c->d.ownBlock≠e.ownBlock
theorem zL.kept {lo:Nat} {w w':a0o} {BY:Nat} {H:Bs->Nat->Prop} {N:Nat} (h:zL lo w BY H N) (n:w'.heap[BY]? =w.heap[BY]?) (o:∀(g:Nat) (c:Array a0h),w.heap[g]? =some (a0r c 3 (0,0))->w'.heap[g]? =w.heap[g]?):zL lo w' BY H N:=by
 obtain ⟨m,b,d,e,i,j⟩:=h;refine ⟨m,b.block n,d,e,λs v t=>?_,j⟩;obtain ⟨u,a,k⟩:=i s v t;exact ⟨u,ah a (λg r=>by obtain ⟨c,p⟩:=aD a r;exact o g c p),k⟩
def Bb (w:a0o) (SE:Nat) (C:Nat×Nat->Prop):Prop:=∃m:List RK,ak Ak w SE (m.map λp=>(p, .bool true))/\∀p:RK,p∈m↔∃i k:Nat,p=((i:Int),(k:Int))/\C (i,k)
def dw (p:Nat×Nat):List a0h:=[.int .i64 (p.1:Int), .int .i64 (p.2:Int)]
structure PR (lo f KB BY SE:Nat) (w1 W:a0o) (l:List aB) (q:Nat) (H:Bs->Nat->Prop) (C O:Nat×Nat->Prop) (N:Nat) (v:a0h):Prop where
 b:a0q lo w1 W
 kn:jC f lo W KB l q
 plc:zL lo W BY H N
 se:Bb W SE C
 out:∃os:List (Nat×Nat),W.ownsRow lo 67 2 v os.length (os.flatMap dw)/\os.Nodup/\∀p,p∈os↔O p
 ne:BY≠SE
 los:lo<=BY/\lo<=SE/\BY<f/\SE<f/\lo<=W.heap.size
 cb:∀p,C p->p.1<p.2/\p.2<l.length
 ob:∀p,O p->C p
section
variable {lo f KB BY SE:Nat} {w1 W:a0o} {l:List aB} {q:Nat} {H:Bs->Nat->Prop} {C O:Nat×Nat->Prop} {N:Nat} {v:a0h}
theorem PR.below (h:PR lo f KB BY SE w1 W l q H C O N v) {e:a0o} (a:a0q W.heap.size W e):PR lo f KB BY SE w1 e l q H C O N v:=by
 obtain ⟨m,i,n⟩:=h.se;obtain ⟨w,j,o⟩:=h.out;obtain ⟨y,c1,_⟩:=id h.plc;obtain ⟨p,r,s,t,k⟩:=h.los;exact ⟨h.b.trans (a.mono k),h.kn.kept (a.block _ h.kn.blk.2.1) (λg d=>a.block g (by
  rcases d with ⟨_,x,c,h⟩|⟨c,h⟩
  · exact ae h
  · exact ae h)),h.plc.kept (a.block _ c1.lt) (λg c u=>a.block g (ae u)),⟨m,i.block (a.block _ i.lt),n⟩,⟨w,ah j (λg d=>a.block g (j.lt g d).2),o⟩,h.ne,⟨p,r,s,t,a0d k a.size⟩,h.cb,h.ob⟩
theorem PR.congr (h:PR lo f KB BY SE w1 W l q H C O N v) {c:Bs->Nat->Prop} {a d:Nat×Nat->Prop} {e:Nat} (n:∀s i,c s i↔H s i) (r:∀p,a p↔C p) (u:∀p,d p↔O p) (x:N<=e):PR lo f KB BY SE w1 W l q c a d e v:=by
 have o:c=H:=funext λs=>funext λi=>propext (n s i);have t:a=C:=funext λp=>propext (r p);have w:d=O:=funext λp=>propext (u p);subst o t w;refine ⟨h.b,h.kn,?_,h.se,h.out,h.ne,h.los,h.cb,h.ob⟩;obtain ⟨m,g,j,k⟩:=h.plc;exact ⟨m,g,a0d j x,k⟩
theorem PR.known (h:PR lo f KB BY SE w1 W l q H C O N v) (y:q<l.length) {t:FT} (z:bU f W (ftV t) (l.getD q rec0)):PR lo f KB BY SE w1 (putKn W KB q t) l (q+1) H C O N v:=by
 have a:=ie W KB q t;obtain ⟨⟨D,d⟩,E,x⟩:=h.kn.blk;obtain ⟨m,i,k⟩:=h.se;obtain ⟨A,j,n⟩:=h.out;obtain ⟨F,c1,_⟩:=id h.plc;obtain ⟨o,p,r,s,u⟩:=h.los;refine ⟨h.b.trans (a.below x),h.kn.put y z,h.plc.kept (a.block _ (aj c1 d)) (λg c e=>a.block g (dj e d (by decide))),⟨m,i.block (a.block _ (aj i d)),k⟩,⟨A,ah j (λg e=>a.block g ?_),n⟩,h.ne,⟨o,p,r,s,by rw [a.size];exact u⟩,h.cb,h.ob⟩;obtain ⟨B,w⟩:=aD j e;exact dj w d (by decide)
theorem kQ {n:Nat} {m:List RK} (c:m.Nodup) (h:∀p∈m,∃i k:Nat,p=((i:Int),(k:Int))/\i<n/\k<n):m.length<=n * n:=by
 have:=eU m ((a0t n).flatMap λi:Nat=>(a0t n).map λk:Nat=>(((i:Nat):Int),(k:Int))) c (λp d=>by obtain ⟨i,k,rfl,a,b⟩:=h p d;exact List.mem_flatMap.2 ⟨i,List.mem_range.2 a,List.mem_map.2 ⟨k,List.mem_range.2 b,rfl⟩⟩)
 refine a0d this ?_;rw [a0H];have:((a0t n).map λi=>((a0t n).map λk=>(((i:Nat):Int),((k:Nat):Int))).length)=a0g n n:=by apply List.ext_getElem?;intro j;by_cases hj:j<n<;>simp [hj]
 rw [this];simp
theorem PR.seen (h:PR lo f KB BY SE w1 W l q H C O N v) (I:l.length<=1000) (i k:Nat) (V:i<k) (X:k<l.length):
 ∃b:Bool,(b=true↔C (i,k))/\(Instr.lookup 205 (.map (some SE)) (.agg #[.int .i64 (i:Int), .int .i64 (k:Int)]) false).run a0i W= .ok (.bool b) W/\
 ∃u,(Instr.mapUpdate 205 (.map (some SE)) (.agg #[.int .i64 (i:Int), .int .i64 (k:Int)]) (.bool true)).run a0i W= .ok () u/\PR lo f KB BY SE w1 u l q H (λp=>C p∨p=(i,k)) O N v/\∀(g:Nat) (c:Array a0h) (t:TypeId),W.heap[g]? =some (a0r c t (0,0))->u.heap[g]? =W.heap[g]? :=by
 obtain ⟨m,d,A⟩:=h.se;have K:rkOk ((i:Int),(k:Int)):=by unfold rkOk i64B;dsimp only;omega
 have G:=ak.look d Tryz.underlying205 (z:= .bool false) (by kernel_rfl) ((i:Int),(k:Int)) K;obtain ⟨z,hz,a3⟩:=vO d ((i:Int),(k:Int));rw [a3] at G;refine ⟨z,?_,G,?_⟩
 · rw [hz,A];constructor
   · rintro ⟨w,y,s,a⟩;injection s with D E
     have D:i=w:=by omega
     have E:k=y:=by omega
     subst D E;exact a
   · exact λa=>⟨i,k,rfl,a⟩
 · have a0:m.Nodup:=by have:=d.nodup;rwa [List.map_map,show ((λx:RK×a0h=>x.1) ∘ λp:RK=>(p,a0B true))=id from rfl,List.map_id] at this
   have Z:=kQ (n:=l.length) a0 (λp r=>by obtain ⟨i,k,rfl,a⟩:=(A p).1 r;have:=h.cb _ a;exact ⟨i,k,rfl,by omega,this.2⟩)
   have a7:m.length<=1000000:=a0d Z (a0d (a0D I I) (by omega));obtain ⟨u,hr,J,j⟩:=ak.put_run d Tryz.underlying205 (by rw [a0c];unfold maxLen;omega) ((i:Int),(k:Int)) K (.bool true);refine ⟨u,hr,?_,λg c t o=>j.block g (aj d o).symm⟩;obtain ⟨m',e,Y,_⟩:=uM m ((i:Int),(k:Int));rw [e] at J;obtain ⟨⟨a4,a⟩,a5,a6⟩:=h.kn.blk;obtain ⟨os,B,L⟩:=h.out;obtain ⟨mb,c1,_⟩:=id h.plc;obtain ⟨M,F,P,Q,R⟩:=h.los;refine ⟨h.b.trans (j.below F),h.kn.kept (j.block _ (aj d a).symm) (λg o=>j.block g ?_),h.plc.kept (j.block _ h.ne) (λg c o=>j.block g (aj d o).symm),⟨m',J,λp=>?_⟩,⟨os,ah B (λg o=>j.block g ?_),L⟩,h.ne,⟨M,F,P,Q,by rw [j.size];exact R⟩,λp r=>?_,λp r=> .inl (h.ob p r)⟩
   · rcases o with ⟨hf,_⟩|⟨c,T⟩
     · omega
     · exact (aj d T).symm
   · rw [Y,A];constructor
     · rintro (⟨w,y,s,a⟩|rfl)
       · exact ⟨w,y,s, .inl a⟩
       · exact ⟨i,k,rfl, .inr rfl⟩
     · rintro ⟨w,y,s,a|a⟩
       · exact .inl ⟨w,y,s,a⟩
       · injection a with c1 c2
         subst c1 c2;exact .inr s
   · obtain ⟨cu,U⟩:=aD B o;exact (aj d U).symm
   · rcases r with r|rfl
     · exact h.cb p r
     · exact ⟨V,X⟩
theorem PR.outs (h:PR lo f KB BY SE w1 W l q H C O N v) {i k:Nat} (y:C (i,k)) (hn:¬O (i,k)) {n u:a0o} (o:a0q W.heap.size W n) {J:a0h} (d:n.grownBy u v.ownBlock) {s:List (Nat×Nat)} (a3:W.ownsRow lo 67 2 v s.length (s.flatMap dw)/\s.Nodup/\∀p,p∈s↔O p) (hr:u.ownsRow lo 67 2 J (s.length+1) (s.flatMap dw++[.int .i64 (i:Int), .int .i64 (k:Int)])):
 PR lo f KB BY SE w1 u l q H C (λp=>O p∨p=(i,k)) N J:=by
 have r:=h.below o;obtain ⟨w,o2,I⟩:=a3;have w:=ah w (λg d=>o.block g (w.lt g d).2);have a4:∀g,v.ownBlock=some g->∃x,n.heap[g]? =some (.cells x 67 (0,0)):=λg d=>aD w d;have Y:∀g,v.ownBlock=some g->lo<=g:=λg d=>(w.lt g d).1;have G:∀g,g<n.heap.size->(∀c,n.heap[g]? ≠some (a0r c 67 (0,0)))->u.heap[g]? =n.heap[g]? :=λg X a0=>d.block g X (λe=>by obtain ⟨x,V⟩:=a4 g e.symm;exact a0 x V);obtain ⟨m,D,K⟩:=r.se;obtain ⟨mb,c1,_⟩:=id r.plc;obtain ⟨⟨a5,U⟩,a7,a6⟩:=r.kn.blk;obtain ⟨M,P,Q,R,F⟩:=r.los;have z:∀{b:Nat},(∃E c,n.heap[b]? =some (.map E c))->u.heap[b]? =n.heap[b]? :=λ⟨E,c,o⟩=>G _ (ae o) (λL j=>by rw [o] at j;injection j with j;exact a0z j);have B:∀{b:Nat} {c:Array a0h} {t:TypeId},n.heap[b]? =some (a0r c t (0,0))->t≠67->u.heap[b]? =n.heap[b]? :=λo ht=>G _ (ae o) (λL j=>by rw [o] at j;injection j with j;injection j with _ j;exact ht j);refine ⟨r.b.grown d F Y,r.kn.kept (B U (by decide)) (λg d=>?_),r.plc.kept (z c1.mp) (λg c d=>B d (by decide)),⟨m,D.block (z D.mp),K⟩,⟨s++[(i,k)],by rw [a0l,List.flatMap_append];exact hr,?_,λp=>by rw [a0k,a0f,I]⟩,r.ne,⟨M,P,Q,R,a0d F d.size⟩,r.cb,λp A=>?_⟩
 · rcases d with ⟨_,Z⟩|⟨c,y⟩
   · exact z Z
   · exact B y (by decide)
 · rw [a0x];exact ⟨o2,by simp,λa T b o=>by rw [List.mem_singleton.1 o];rintro rfl;exact hn ((I _).1 T)⟩
 · rcases A with A|rfl
   · exact h.ob p A
   · exact y
theorem PR.places (h:PR lo f KB BY SE w1 W l q H C O N v) (hN:N<=100000000000000000) (s:Bs) (hs:s.length<=1000000000) (k:Nat) (hk:¬H s k):
 ∃(x:a0h) (n:List Nat),(Instr.lookup 204 (.map (some BY)) (S s) false).run a0i W= .ok x W/\W.ownsRow lo 3 1 x n.length (fN n)/\n.Nodup/\(∀i,i∈n↔H s i)/\
 ∀(y:a0h) (o E:a0o),a0q W.heap.size W o->o.grownBy E x.ownBlock->E.ownsRow lo 3 1 y (n.length+1) (fN n++[.int .i64 (k:Int)])->(y.ownBlock=x.ownBlock∨y.ownBlock=some o.heap.size)->
  ∃F,(Instr.mapUpdate 204 (.map (some BY)) (S s) y).run a0i E= .ok () F/\PR lo f KB BY SE w1 F l q (λt i=>H t i∨t=s/\i=k) C O (N+1) v/\∀(g:Nat) (c:Array a0h),o.heap[g]? =some (a0r c 9 (0,0))->F.heap[g]? =o.heap[g]? :=by
 obtain ⟨m,Y,a2,a3,Z,a5⟩:=id h.plc;have ac:s.length<=maxLen:=by unfold maxLen;omega
 have a9:=ak.look Y Tryz.underlying204 (z:= .slice none 0 0) (by kernel_rfl) s ac;have hx:∃(x:a0h) (n:List Nat),(lookL m s).getD (.slice none 0 0)=x/\W.ownsRow lo 3 1 x n.length (fN n)/\n.Nodup/\(∀i,i∈n↔H s i)/\(∀t u,lookL m t=some u->t≠s->x.ownBlock≠u.ownBlock∨x.ownBlock=none):=by
  cases R:lookL m s with
  |none=>exact ⟨_,[],rfl,a0I _ _ _ _,List.nodup_nil,λi=>⟨λh=>(by cases h),λh=>absurd h (a3 s R i)⟩,λ_ _ _ _=> .inr rfl⟩
  |some x=> obtain ⟨n,P,U,Q⟩:=Z s x R;exact ⟨x,n,rfl,P,U,Q,λt u r p=> .inl (a5 s t x u R r (λe=>p e.symm))⟩
 obtain ⟨x,n,e,P,U,Q,b4⟩:=hx;rw [e] at a9;refine ⟨x,n,a9,P,U,Q,λy o E j X hr aC=>?_⟩;have B:=h.below j;have o1:=ah P (λg d=>j.block g (P.lt g d).2);have b6:∀g,x.ownBlock=some g->∃M,o.heap[g]? =some (.cells M 3 (0,0)):=λg d=>aD o1 d;have ay:∀g,x.ownBlock=some g->lo<=g:=λg d=>(o1.lt g d).1;have a8:∀g,g<o.heap.size->(∀c,o.heap[g]? ≠some (a0r c 3 (0,0)))->E.heap[g]? =o.heap[g]? :=λg R A=>X.block g R (λe=>by obtain ⟨M,J⟩:=b6 g e.symm;exact A M J);have a6:∀{b:Nat},(∃es c,o.heap[b]? =some (.map es c))->E.heap[b]? =o.heap[b]? :=λ⟨es,c,j⟩=>a8 _ (ae j) (λc' w=>by rw [j] at w;injection w with w;exact a0z w);have b5:∀{b:Nat} {c:Array a0h} {t:TypeId},o.heap[b]? =some (a0r c t (0,0))->t≠3->E.heap[b]? =o.heap[b]? :=λj p=>a8 _ (ae j) (λc' w=>by rw [j] at w;injection w with w;injection w with _ w;exact p w);have T:=Y.block (j.block _ Y.lt);have a7:=T.block (a6 T.mp);obtain ⟨F,b0,aS,K⟩:=ak.put_run a7 Tryz.underlying204 (by unfold maxLen;omega) s ac y;refine ⟨F,b0,?_⟩;obtain ⟨ms,s1,s2⟩:=B.se;obtain ⟨⟨bb,au⟩,bk,bc⟩:=B.kn.blk;obtain ⟨g1,g2,g3,g4,g5⟩:=B.los;obtain ⟨os,q1,q2⟩:=B.out;have bs:=X.size;have V:∀{b:Nat} {c:Array a0h} {t:TypeId},o.heap[b]? =some (a0r c t (0,0))->t≠3->F.heap[b]? =o.heap[b]? :=λj p=>(K.block _ (λe=>by have:=aj T j;exact this e.symm)).trans (b5 j p)
 have ao:a0q lo w1 F:=(B.b.grown X g5 ay).trans (K.below g1);refine ⟨⟨ao,B.kn.kept (V au (by decide)) (λg d=>?_),?_,⟨ms,s1.block ((K.block _ (λe=>B.ne e.symm)).trans (a6 s1.mp)),s2⟩,⟨os,ah q1 (λg d=>?_),q2⟩,B.ne,⟨g1,g2,g3,g4,by rw [K.size];omega⟩,B.cb,B.ob⟩,λg c d=>V d (by decide)⟩
 · rcases d with ⟨hf,hm⟩|⟨c,hc⟩
   · exact (K.block g (by omega)).trans (a6 hm)
   · exact V hc (by decide)
 · have ad:∀t u,lookL m t=some u->t≠s->y.ownBlock≠u.ownBlock:=λt u r p=>by
    have b7:∀g,u.ownBlock=some g->g<o.heap.size:=λg d=>by obtain ⟨_,c1,_⟩:=Z t u r;exact a0u (c1.lt g d).2 j.size
    have b8:y.ownBlock≠none:=λe0=>by obtain ⟨g,b9,he,_⟩:=a0s hr (by omega);rw [he] at e0;cases e0
    intro al;rcases aC with G|G
    · rcases b4 t u r p with I|I
      · exact I (G.symm.trans al)
      · exact b8 (G.trans I)
    · have:=b7 _ (al.symm.trans G);omega
   refine ⟨_,aS,a0d (yA m s y) (by omega),λt p i=>?_,λt u r=>?_,λt1 t2 u1 u2 L D A=>?_⟩
   · rw [df] at p;split at p
     · cases p
     · rename_i A;rintro (hh|⟨rfl,_⟩)
       · exact a3 t p i hh
       · exact A rfl
   · rw [df] at r;split at r
     · rename_i I;injection r with r
       subst r I;refine ⟨n++[k],?_,?_,λi=>?_⟩
       · rw [a0l];have:fN (n++[k])=fN n++[.int .i64 (k:Int)]:=by unfold fN;rw [List.map_append];rfl
         rw [this];exact ah hr (λg d=>K.block g (λe=>by obtain ⟨M,J⟩:=aD hr d;exact aj a7 J e.symm))
       · rw [a0x];exact ⟨U,by simp,λa ha b j=>by rw [List.mem_singleton.1 j];rintro rfl;exact hk ((Q _).1 ha)⟩
       · rw [a0k,a0f,Q];simp
     · rename_i A;obtain ⟨zs,c1,c2,c3⟩:=Z t u r;refine ⟨zs,ah c1 (λg d=>?_),c2,λi=>?_⟩
       · have ax:=d;have a0:=(c1.lt g ax).2;obtain ⟨M,J⟩:=aD c1 d;have av:=(j.block g a0).trans J;have aT:g≠BY:=λe=>aj T av e.symm;rw [K.block g aT,X.block g (a0u a0 j.size) (λe=>?_)]
         · exact j.block g a0
         · rcases b4 t u r A with e3|e3
           · exact e3 (e.symm.trans d.symm)
           · rw [e3] at e;cases e
       · rw [c3];constructor
         · exact .inl
         · rintro (h|⟨rfl,_⟩)
           · exact h
           · exact absurd rfl A
   · rw [df] at L D;split at L
     · rename_i G;injection L with L
       subst L G;rw [if_neg (λe=>A e.symm)] at D;exact ad t2 u2 D (λe=>A e.symm)
     · split at D
       · rename_i G I;injection D with D
         subst D I;exact λe=>ad t1 u1 L A e.symm
       · exact a5 t1 t2 u1 u2 L D A
 · obtain ⟨M,J⟩:=aD q1 d;exact V J (by decide)
end
end
section
open Go.RowKit Go.Maps Go.Shelf
def rdCells (p:aB×a0h):List a0h:=[.int .u8 p.1.kind.toNat, .int .u8 p.1.level.toNat,p.2]
def lL (w:a0o) (v:a0h) (a:List (aB×a0h)):Prop:=aH 0 w.heap.size w v a.length (a.flatMap rdCells)/\∀p∈a,ai 0 w.heap.size w p.2 p.1.fields
theorem lL.get {w:a0o} {v:a0h} {c:List (aB×a0h)} (h:lL w v c) (i:Nat) (e:i<c.length):
 ∃b d g,v= .slice (some ⟨b,d,none⟩) c.length g/\b<w.heap.size/\w.cell? ⟨b,d+i * 3,none⟩=some (.int .u8 c[i].1.kind.toNat)/\w.cell? ⟨b,d+i * 3+1,none⟩=some (.int .u8 c[i].1.level.toNat)/\w.cell? ⟨b,d+i * 3+2,none⟩=some c[i].2:=by
 obtain ⟨a,g,t,h⟩:=h.1;have r:c.flatMap rdCells≠[]:=by
  cases c with
  |nil=>simp at e
  |cons s l=>simp [rdCells]
 obtain ⟨b,d,p,u,o,j⟩:=h r;subst p;have k:=de rdCells 3 (λ_=>rfl) c i e 0 (by omega);have m:=de rdCells 3 (λ_=>rfl) c i e 1 (by omega);have n:=de rdCells 3 (λ_=>rfl) c i e 2 (by omega);exact ⟨b,d,g,t,o,j _ _ k,by rw [Nat.add_assoc];exact j _ _ m,by rw [Nat.add_assoc];exact j _ _ n⟩
theorem lL.below {w w':a0o} {v:a0h} {a:List (aB×a0h)} (h:lL w v a) (c:a0q w.heap.size w w'):aH 0 w.heap.size w' v a.length (a.flatMap rdCells)/\∀p∈a,ai 0 w.heap.size w' p.2 p.1.fields:=
 ⟨aH.kept h.1 (λg _ b=>c.block g b),λp d=>(h.2 p d).kept (λg _ b=>c.block g b)⟩
theorem yN (n:Nat):(madeCells (ftV ft0).cells (n * 5)).toList=(a0g n ft0).flatMap ftCells:=by
 apply List.ext_getElem?;intro j;by_cases hj:j<n * 5
 · have a:j / 5<(a0g n ft0).length:=by rw [List.length_replicate];omega
   have e:=de ftCells 5 (λ_=>rfl) (a0g n ft0) (j / 5) a (j%5) (by omega);rw [show j / 5 * 5+j%5=j by omega,List.getElem_replicate] at e;rw [e];have b:∀r,r<5->(ftCells ft0)[r]? =some ((ftV ft0).cells[r]!):=by intro r g;rcases r with _|_|_|_|_|r<;>first |rfl|omega
   rw [b _ (by omega)];have d:(ftV ft0).cells.size=5:=rfl;simp [madeCells,hj,d]
 · have c:((a0g n ft0).flatMap ftCells).length=n * 5:=by rw [a0H,List.map_replicate];simp [ftCells]
   rw [a0G (by rw [Array.length_toList,size_madeCells];omega),a0G (by rw [c];omega)]
theorem sr (w:a0o) (n:Nat) (m:n<=1000):∃wa,(Instr.makeSlice 203 (.int .i64 (n:Int)) (.int .i64 (n:Int))).run a0i w= .ok (.slice (some ⟨w.heap.size,0,none⟩) n n) wa/\
 wa.ownsRow w.heap.size 208 5 (.slice (some ⟨w.heap.size,0,none⟩) n n) n ((a0g n ft0).flatMap ftCells)/\a0q w.heap.size w wa:=by
 obtain ⟨i,e,k,h,d⟩:=info_parts A8;obtain ⟨wa,b,a,c⟩:=run_makeSlice_full (P:=a0i) w w.heap.size 203 208 i (ftV ft0) 5 Tryz.underlying203 e k h .i64 .i64 n (by omega) (by rw [d];omega) (by unfold maxLen;omega) (a0b _);rw [yN] at a;exact ⟨wa,b,a,(a0m _ w).grown c (a0b _) (λj g=>by cases g)⟩
theorem PR.new {w wa:a0o} (l:List aB) (h:wa.ownsRow w.heap.size 208 5 (.slice (some ⟨w.heap.size,0,none⟩) l.length l.length) l.length ((a0g l.length ft0).flatMap ftCells)) (d:a0q w.heap.size w wa):
 PR w.heap.size (wa.heap.size+2) w.heap.size wa.heap.size (wa.heap.size+1) ((wa.alloc (.map #[] 0)).alloc (.map #[] 0)) ((wa.alloc (.map #[] 0)).alloc (.map #[] 0)) l 0 (gm l 0 []) (λp=>cameR l 0 [] p=true) (λp=>cameR l 0 [] p=true/\40<=pointsR (l.getD p.1 rec0) (l.getD p.2 rec0)) 0 (.slice none 0 0):=by
 have o:=d.size;have n:(wa.alloc (.map #[] 0)).heap.size=wa.heap.size+1:=by simp
 have e:a0q wa.heap.size wa ((wa.alloc (.map #[] 0)).alloc (.map #[] 0)):=((a0m _ wa).alloc (a0b _) _).alloc (by simp) _;refine ⟨a0m _ _,⟨a0g l.length ft0,by simp,ah h (λg j=>e.block g (h.lt g j).2),λi m=>absurd m (by omega)⟩,⟨[],(ak.made wa).alloc _,a0b _,λs _ i=>?_,λs v b=>(by cases b),λ_ _ _ _ b=>(by cases b)⟩,⟨[],?_,λp=>⟨λh=>(by cases h),?_⟩⟩,⟨[],a0I _ _ _ _,List.nodup_nil,λp=>⟨λh=>(by cases h),?_⟩⟩,by omega,⟨by omega,by omega,by omega,by omega,by simp;omega⟩,λp a=>?_,λp a=>a.1⟩
 · rintro (⟨c,_⟩|⟨_,c⟩)
   · omega
   · cases c
 · rw [<- n];exact ak.made _
 · rintro ⟨i,k,_,h⟩;rw [jx] at h;cases h
 · rintro ⟨h,_⟩;rw [jx] at h;cases h
 · rw [jx] at a;cases a
theorem p9 {a:List (aB×a0h)} {i:Nat} (b:i<a.length):(a.map (·.1)).getD i rec0=a[i].1:=by
 rw [a0e,a0y,a0j b];rfl
theorem iW {a:List af} (h:bL a):(br a).length<=1000000000:=by
 have b:=eo h dI [97];have c:=el (textF (firstF a dI) [97]);unfold br;omega
theorem yx {a:List af} (h:bL a):(keysR a).length<=10000000000000:=by
 have b:=jO ((rawR a).mergeSort leB);rw [List.length_mergeSort] at b;have c:=fI a a.length h;rw [List.take_length] at c;have d:(rawR a).length<=(booksR a).length+1:=by unfold rawR;rw [a0l,a0c];split<;>simp
 have e:(keysR a).length<=(rawR a).length:=b;omega
theorem zc {c:List af} (h:bL c) {s:Bs} (i:s∈keysR c):s.length<=1000000000:=by
 have a:=((gI c).2 s).1 i;unfold rawR at a;rcases List.mem_append.1 a with a|a
 · obtain ⟨b,d,rfl⟩:=List.mem_map.1 a;have:b.length<=13:=by
    unfold booksR at d;obtain ⟨f,_,d⟩:=List.mem_flatMap.1 d;unfold oX at d;split at d
    · obtain ⟨u,_,e⟩:=List.mem_filterMap.1 d;split at e
      · exact eK e
      · cases e
    · cases d
   unfold isbnK;rw [a0l];have g:([105,115,98,110,32]:Bs).length=5:=rfl;omega
 · split at a
   · cases a
   · rw [a0f] at a;subst a;have j:=mC c h;have k:((br c).headD []).length<=4000000:=by
      unfold br;cases hw:ba (textF (firstF c dI) [97]) with
      |nil=>simp
      |cons z zs=> have m:=kr (textF (firstF c dI) [97]) z (by rw [hw];simp);have g:=eo h dI [97];simp only [List.headD_cons];omega
     unfold nH;simp only [a0l];have n:([116,105,116,108,101,32]:Bs).length=6:=rfl;have o:([32,47,32]:Bs).length=3:=rfl;omega
theorem mO {C:Nat×Nat->Prop} {i q:Nat} {zs:List Nat} (h:C (i,q)∨(i,q).2=q/\(i,q).1∈zs) (p:Nat×Nat):(C p∨p.2=q/\p.1∈zs)↔(C p∨p.2=q/\p.1∈zs++[i]):=by
 obtain ⟨a,b⟩:=p;dsimp only at h ⊢;rw [a0k,a0f];constructor
 · rintro (c|⟨c,d⟩)
   · exact .inl c
   · exact .inr ⟨c, .inl d⟩
 · rintro (c|⟨c,d|d⟩)
   · exact .inl c
   · exact .inr ⟨c,d⟩
   · subst c d;exact h.imp id (λh=>h)
theorem sg {C:Nat×Nat->Prop} {i q:Nat} {zs:List Nat} (p:Nat×Nat):(C p∨p.2=q/\p.1∈zs++[i])↔((C p∨p.2=q/\p.1∈zs)∨p=(i,q)):=by
 obtain ⟨a,b⟩:=p;dsimp only;rw [a0k,a0f,Prod.mk.injEq];constructor
 · rintro (c|⟨c,d|d⟩)
   · exact .inl (.inl c)
   · exact .inl (.inr ⟨c,d⟩)
   · exact .inr ⟨d,c⟩
 · rintro ((c|⟨c,d⟩)|⟨c,d⟩)
   · exact .inl c
   · exact .inr ⟨c, .inl d⟩
   · exact .inr ⟨d, .inr c⟩
def lY (p:Nat×Nat):RK:=((p.1:Int),(p.2:Int))
theorem tY (a:List (Nat×Nat)):a.flatMap dw=(a.map lY).flatMap rkCells:=by
 rw [List.flatMap_map];rfl
theorem wt {l:List aB} {c:List (Nat×Nat)} (g:c.Nodup) (h:∀p,p∈c↔p∈pairsR l):cM ltRK (c.map lY)=(pairsR l).map lY:=by
 have d:=om l;have i:∀a,ltNN a a≠true:=λa h=>by rw [iJ] at h;omega
 have j:(pairsR l).Nodup:=d.imp λ{a b} h e=>by rw [e] at h;exact i _ h
 refine cH aL (((List.perm_ext_iff_of_nodup g j).2 h).map _) ?_;rw [a0w];refine d.imp λ{a b} h=>?_;rw [iJ] at h;rw [eV];unfold lY;dsimp only;omega
theorem wR (w:a0o) (v:a0h) (z:List (aB×a0h)) (h:lL w v z) (hn:z.length<=1000) (ao:∀p∈z,bL p.1.fields):
 Calls a0i 79 #[v] w λe w'=>∃v':a0h,e= .returned v'/\w'.ownsRow w.heap.size 67 2 v' (pairsR (z.map (·.1))).length ((pairsR (z.map (·.1))).flatMap dw)/\a0q w.heap.size w w':=by
 obtain ⟨wa,k4,h7,cl⟩:=sr w z.length hn;have aS:(z.map (·.1)).length=z.length:=a0c _;obtain ⟨Z,g8⟩:∃B:Nat,B=10000000000000:=⟨_,rfl⟩;have ex:=a0a g8;clear g8;have b5:=a0a (PR.new (w:=w) (wa:=wa) (z.map (·.1)) (by rw [aS];exact h7) cl);obtain ⟨l,hl⟩:∃l,z.map (·.1)=l:=⟨_,rfl⟩;have g1:Hid (∀i (Q:i<z.length),z[i].1=l.getD i rec0):=λi Q=>by rw [<- hl,p9 Q]
 have d6:Hid (∀i,i<l.length->bL (l.getD i rec0).fields):=λi Q=>by
  have gy:i<z.length:=by rw [<- aS,hl];exact Q
  rw [<- hl,p9 gy];exact ao _ (a0p gy)
 rw [hl] at b5 aS ⊢;have g0:=a0a h;obtain ⟨av,cv,rfl,_⟩:=h.1;obtain ⟨w1,cs⟩:∃w1,(wa.alloc (.map #[] 0)).alloc (.map #[] 0)=w1:=⟨_,rfl⟩;rw [cs] at b5;have gf:a0q w.heap.size w w1:=by rw [<- cs];have hz:=cl.size;exact (cl.alloc hz _).alloc (by simp;omega) _
 have es:=a0a gf;have ib:=a0a cs;obtain ⟨BY,cc⟩:∃BY,wa.heap.size=BY:=⟨_,rfl⟩;have gd:(wa.alloc (.map #[] 0)).heap.size=BY+1:=by rw [<- cc];simp
 rw [cc] at b5;have hD:=a0a cc;have kb:=a0a gd;obtain ⟨n,e5⟩:∃n,z.length=n:=⟨_,rfl⟩;have c4:=a0a e5;rw [e5] at hn aS k4 ⊢;have b2:=a0a aS;have kq:= @run_makeMap a0i;clear h h7 cl cs gf cc gd hl e5 aS ao;go_enter Tryz.func79,Tryz.ntmps79;go_upto_region 6 with fail
 rw [ib.out,hD.out];obtain ⟨KB,cd⟩:∃KB,w.heap.size=KB:=⟨_,rfl⟩;have f9:=a0a cd;rw [cd] at b5 ⊢;have g2:Hid (∀W,a0q KB w1 W->a0q w.heap.size w W/\aH 0 w.heap.size W (.slice av n cv) n (z.flatMap rdCells)/\∀p∈z,ai 0 w.heap.size W p.2 p.1.fields):=λW Y=>by have b8:a0q w.heap.size w W:=es.out.trans (Y.mono (by rw [<- cd];exact a0b _));have:=g0.below b8;rw [c4.out] at this;exact ⟨b8,this⟩
 clear cd;go_loopw [6,21] (λv i wr=>∃q:Nat,q<=n/\i= .int .i64 q/\Hid (PR KB (BY+2) KB BY (BY+1) w1 wr l q (gm l q []) (λp=>cameR l q [] p=true) (λp=>cameR l q [] p=true/\40<=pointsR (l.getD p.1 rec0) (l.getD p.2 rec0)) (q * Z) v)) (λ_ i _=>n - (intOf i).toNat)
 case atStart=>exact ⟨0,a0A _,rfl,by rw [Nat.zero_mul];exact b5.out⟩
 case round=>
  obtain ⟨q,hq,rfl,HP⟩:=hrel;by_cases aT:q<n
  · have bv:q<z.length:=by rw [c4.out];exact aT
    have b1:q<l.length:=by rw [b2.out];exact aT
    obtain ⟨dz,h9,e3⟩:=g2 wr HP.b;have gx:=g1 q bv;have ad:=e3 _ (a0p bv);have h6:lL wr (.slice av n cv) z:=⟨by rw [c4.out];exact h9.mono (a0A _) dz.size,λp hp=>(e3 p hp).mono (a0b _) dz.size⟩;obtain ⟨b,off,iP,hv,kd,e0,e1,e2⟩:=h6.get q bv;have k7:(Value.slice av n cv)= .slice (some ⟨b,off,none⟩) n iP:=by rw [hv,c4.out]
    cases k7;rw [gx] at ad e0 e1;have ao:=d6 q b1;obtain ⟨x,hx⟩:∃x,z[q].2=x:=⟨_,rfl⟩;rw [hx] at ad e2;obtain ⟨r,U⟩:∃r,l.getD q rec0=r:=⟨_,rfl⟩;have HR:=a0a U;have iD:=a0a hx;rw [U] at ad e0 e1 ao;obtain ⟨V,X,A⟩:=r;dsimp only at ad e0 e1 ao;have k9:=a0a (ad.kept (w:=wr) (w':=wr) (λ_ _ _=>rfl));have k0:=ad;obtain ⟨a0,c0,rfl⟩:=ad.shape;have c7:=a0a ao;clear dz h9 e3 gx h6 hv hx U ao k0;obtain ⟨G,bw⟩:∃G,wr.alloc (.cells #[.int .u8 V.toNat, .int .u8 X.toNat, .slice a0 A.length c0] 62)=G:=⟨_,rfl⟩;have gn:a0q wr.heap.size wr G:=by rw [<- bw];exact (a0m _ wr).alloc (a0b _) _
    have hF:G.heap[wr.heap.size]? =some (.cells #[.int .u8 V.toNat, .int .u8 X.toNat, .slice a0 A.length c0] 62 (0,0)):=by rw [<- bw];exact a0F wr _
    obtain ⟨R,cg⟩:∃R,wr.heap.size=R:=⟨_,rfl⟩;rw [cg] at hF;have HF:=a0a hF;have d4:=a0a (HP.below gn);have f6:Hid (∀W,a0q KB w1 W->ai 0 W.heap.size W (.slice a0 A.length c0) A):=λW Y=>by obtain ⟨al,_,y⟩:=g2 W Y;have y:=y _ (a0p bv);have h4:=g1 q bv;rw [HR.out] at h4;rw [h4,iD.out] at y;exact y.mono (a0b _) al.size
    have hR:Hid (Calls a0i 129 #[.agg #[.int .u8 V.toNat, .int .u8 X.toNat, .slice a0 A.length c0]] G λe w'=>∃v,e= .returned v/\bU G.heap.size w' v ⟨V,X,A⟩/\a0q G.heap.size G w'):=Am V X _ A G (f6 G d4.b) c7.out;have gb:G.heap.size=R+1:=by rw [<- bw, <- cg];simp
    have ka:=a0a gb;have it:=a0a bw;have hY:=a0a cg;obtain ⟨dc,dd,dk⟩:G.cell? ⟨R,0,none⟩=some (.int .u8 V.toNat)/\G.cell? ⟨R,1,none⟩=some (.int .u8 X.toNat)/\G.cell? ⟨R,2,none⟩=some (.slice a0 A.length c0):=⟨(aa hF 0).trans rfl,(aa hF 1).trans rfl,(aa hF 2).trans rfl⟩;clear bw cg gn hF gb ad g0;go_upto_region 8 with fail
    rw [it.out,hY.out];go_upto_region 9 with (go_at_call 129;refine a0C hR.out ?_;rintro e w3 ⟨v3,rfl,e4,ch⟩;obtain ⟨⟨ta,tb,tc,hy,hA,td,te⟩,rfl⟩:=e4.form;have a8:=a0a (d4.out.below ch);have hG:=a0a e4;have f5:=a0a ((ch.block _ (ae HF.out)).trans HF.out);have k8:=a0a ch;obtain ⟨t',_,z0,z1,z2,z3,z4⟩:=a8.out.kn.get b1;have f0:=a8.out.kn.frozen (q * 5);have f1:=a8.out.kn.frozen (q * 5+1);have f2:=a8.out.kn.frozen (q * 5+2);have f3:=a8.out.kn.frozen (q * 5+3);have f4:=a8.out.kn.frozen (q * 5+4);unfold ftV;dsimp only;clear e4 ch)
    obtain ⟨D,cx⟩:∃D,putKn w3 KB q ⟨ta,tb,tc,hy,hA,td,te⟩=D:=⟨_,rfl⟩;have ft:Hid (PR KB (BY+2) KB BY (BY+1) w1 D l (q+1) (gm l q []) (λp=>cameR l q [] p=true) (λp=>cameR l q [] p=true/\40<=pointsR (l.getD p.1 rec0) (l.getD p.2 rec0)) (q * Z) u6):=by
     rw [<- cx];refine a8.known b1 (bU.mono (f:=G.heap.size) ?_ ?_)
     · rw [HR.out];exact hG.out
     · obtain ⟨m,hm,_⟩:=d4.se;exact hm.lt
    have cP:Hid (D.heap[R]? =some (.cells #[.int .u8 V.toNat, .int .u8 X.toNat, .slice a0 A.length c0] 62 (0,0))):=by
     unfold Hid;rw [<- cx,(ie w3 KB q _).block R (λe=>?_)]
     · exact f5.out
     · obtain ⟨⟨cu,jn⟩,_⟩:=a8.kn.blk;exact dj f5.out jn (by decide) e
    rw [show ((((w3.setCell {block:=KB,off:=q * 5} (Value.map ta)).setCell {block:=KB,off:=q * 5+1} (Value.string {data:=List.toArray tb})).setCell {block:=KB,off:=q * 5+2} (Value.slice tc hy hA)).setCell {block:=KB,off:=q * 5+3} (Value.int IntKind.i64 td)).setCell {block:=KB,off:=q * 5+4} (Value.int IntKind.u8 ↑te.toNat)=D from cx];clear cx z0 z1 z2 z3 z4 f0 f1 f2 f3 f4 dc dd dk e0 e1 e2;obtain ⟨dc,dd,dk⟩:D.cell? ⟨R,0,none⟩=some (.int .u8 V.toNat)/\D.cell? ⟨R,1,none⟩=some (.int .u8 X.toNat)/\D.cell? ⟨R,2,none⟩=some (.slice a0 A.length c0):=⟨(aa cP.out 0).trans rfl,(aa cP.out 1).trans rfl,(aa cP.out 2).trans rfl⟩;have er:Hid (Calls a0i 130 #[.agg #[.int .u8 V.toNat, .int .u8 X.toNat, .slice a0 A.length c0]] D λe w'=>∃v,e= .returned v/\w'.ownsRow D.heap.size 9 1 v (keysR A).length ((keysR A).map λs=>S s)/\a0q D.heap.size D w'):=zG V X _ A D (f6 D ft.b) c7.out;have k3:(keysR A).length<=10000000000000:=yx c7.out;have fc:=a0a (λs (hs:s∈keysR A)=>zc c7.out hs);have fl:=a0a (gI A);have c3:Hid (keysR (l.getD q rec0).fields=keysR A):=by unfold Hid;rw [HR.out]
    obtain ⟨u,gP⟩:∃u,keysR A=u:=⟨_,rfl⟩;rw [gP] at er k3 fc fl c3;clear gP;go_upto_region 10 with (go_at_call 130;refine a0C er.out ?_;rintro e w5 ⟨v5,rfl,e8,gi⟩;obtain ⟨a5,k5,rfl⟩:=aK e8;have hN:=a0a e8;have a9:=a0a (ft.out.below gi);clear e8 gi)
    clear dc dd dk;go_loopw [6,34] (λv i wr=>∃p:Nat,p<=u.length/\i= .int .i64 p/\Hid (PR KB (BY+2) KB BY (BY+1) w1 wr l (q+1) (gm l q (u.take p)) (λd=>cameR l q (u.take p) d=true) (λd=>cameR l q (u.take p) d=true/\40<=pointsR (l.getD d.1 rec0) (l.getD d.2 rec0)) (q * Z+p) v)/\Hid (wr.ownsRow D.heap.size 9 1 (.slice a5 u.length k5) u.length (u.map λs=>S s))) (λ_ i _=>u.length - (intOf i).toNat)
    case atStart=>exact ⟨0,a0A _,rfl,by rw [List.take_zero,Nat.add_zero];exact a9.out,hN.out⟩
    case round=>
     obtain ⟨p,hp,rfl,b6,b4⟩:=hrel;by_cases hlp:p<u.length
     · have ha:=a0p hlp;have d8:Hid (u.take (p+1)=u.take p++[u[p]]):=a0v hlp;have b3:Hid (u[p]∉u.take p):=λhm=>by have y:=fl.1;rw [<- List.take_append_drop p u,List.drop_eq_getElem_cons hlp,a0x] at y;exact y.2.2 _ hm _ List.mem_cons_self rfl
       obtain ⟨g5,l1,dO,_⟩:=a0s b4.out (by omega);cases dO;have gs:wr.cell? ⟨g5,p,none⟩=some (S u[p]):=by rw [b4.out.cellAt p (by omega),a0y,a0j hlp];rfl
       have d5:=a0a (fc _ ha);obtain ⟨s,hs⟩:∃s,u[p]=s:=⟨_,rfl⟩;rw [hs] at d8 b3 gs d5;clear hs ha;have bs:¬gm l q (u.take p) s q:=by
        rintro (⟨y,_⟩|⟨_,y⟩)
        · omega
        · exact b3 y
       have g9:q * Z+p<=100000000000000000:=by have:=Nat.mul_le_mul_right Z (show q<=1000 by omega);have Y:=ex.out;omega
       obtain ⟨x,zs,cq,eq,em,eg,_⟩:=b6.places g9 s d5.out q bs;obtain ⟨ax,kx,rfl⟩:=aK eq;have iF:=a0a eq;have kc:=a0a em;have g7:=a0a eg;have kv:zs.length<=1000:=by
        have:=eU zs (a0t n) em (λi Q=>by rw [List.mem_range];rcases (eg i).1 Q with ⟨y,_⟩|⟨y,_⟩<;>omega)
        rw [List.length_range] at this;omega
       clear eq em eg bs;go_upto_region 13 with fail
       clear cq gs;have hT:=b6;have hQ:=b4;clear b6 b4;generalize wr=wB at *;go_loopw [6,42] (λv i wr=>∃j:Nat,j<=zs.length/\i= .int .i64 j/\Hid (PR KB (BY+2) KB BY (BY+1) w1 wr l (q+1) (gm l q (u.take p)) (λd=>cameR l q (u.take p) d=true∨d.2=q/\d.1∈zs.take j) (λd=>(cameR l q (u.take p) d=true∨d.2=q/\d.1∈zs.take j)/\40<=pointsR (l.getD d.1 rec0) (l.getD d.2 rec0)) (q * Z+p) v)/\Hid (wr.ownsRow D.heap.size 9 1 (.slice (some ⟨g5,0,none⟩) u.length k5) u.length (u.map λs=>S s))/\Hid (wr.ownsRow KB 3 1 (.slice ax zs.length kx) zs.length (fN zs))) (λ_ i _=>zs.length - (intOf i).toNat)
       case atStart=>exact ⟨0,a0A _,rfl,hT.out.congr (λ_ _=>Iff.rfl) (λd=>by simp) (λd=>by simp) (a0b _),hQ.out,iF.out⟩
       case round=>
        obtain ⟨j,hj,rfl,c6,c5,b7⟩:=hrel;by_cases hlj:j<zs.length
        · obtain ⟨gz,kz,dO,_⟩:=a0s b7.out (by omega);cases dO;have hu:wr.cell? ⟨gz,j,none⟩=some (.int .i64 (zs[j]:Int)):=by rw [b7.out.cellAt j (by omega)];unfold fN;rw [a0y,a0j hlj];rfl
          have ej:=(g7 zs[j]).1 (a0p hlj);have c9:Hid (zs.take (j+1)=zs.take j++[zs[j]]):=a0v hlj;obtain ⟨i,Q⟩:∃i,zs[j]=i:=⟨_,rfl⟩;rw [Q] at hu ej c9;have k2:i<q:=by
           rcases ej with ⟨y,_⟩|⟨_,y⟩
           · exact y
           · exact absurd y b3.out
          clear Q ej;obtain ⟨wz,cy⟩:∃wz,wr.alloc (.cells #[.int .i64 (i:Int), .int .i64 (q:Int)] 211)=wz:=⟨_,rfl⟩;have b9:a0q wr.heap.size wr wz:=by rw [<- cy];exact (a0m _ wr).alloc (a0b _) _
          have hZ:wz.heap[wr.heap.size]? =some (.cells #[.int .i64 (i:Int), .int .i64 (q:Int)] 211 (0,0)):=by rw [<- cy];exact a0F wr _
          obtain ⟨sb,h8,cq,I,hd,a9,gq⟩:=(c6.out.below b9).seen (by rw [b2.out];exact hn) i q k2 b1;have hX:=a0a (c6.below b9);have d2:Hid (wz.ownsRow D.heap.size 9 1 (.slice (some ⟨g5,0,none⟩) u.length k5) u.length (u.map λs=>S s)):=ah c5.out (λg F=>b9.block g (c5.lt g F).2);have da:Hid (wz.ownsRow KB 3 1 (.slice (some ⟨gz,0,none⟩) zs.length kx) zs.length (fN zs)):=ah b7.out (λg F=>b9.block g (b7.lt g F).2);obtain ⟨z0,z1⟩:=cT hZ;have iv:=a0a cy;obtain ⟨Rz,ds⟩:∃Rz,wr.heap.size=Rz:=⟨_,rfl⟩;rw [ds] at z0 z1;have i6:=a0a ds;have g3:=a0a h8;have a9:=a0a a9;have i8:=a0a hd;have eQ:=a0a gq;clear cy b9 hZ ds h8 hd gq;go_upto_region 16 with fail
          rw [iv.out,i6.out];clear hu;cases sb
          · have hL:=a0a (λL=>Bool.false_ne_true (g3.2 L));go_upto_region 18 with (at_mapUpdate;refine wpList_plain rfl λK hK=>?_;refine fj rfl i8.out ?_;refine hK _ _ ?_)
            have iS:=a9.out.kn.get (i:=i) (by omega);have ja:=a9.kn.get (i:=q) b1;obtain ⟨⟨x1,x2,x3,x4,x5,x6,x7⟩,cm,i0,i1,i2,i3,i4⟩:=iS;obtain ⟨⟨y1,y2,y3,y4,y5,y6,y7⟩,cp,j0,j1,j2,j3,j4⟩:=ja;dsimp only at i0 i1 i2 i3 i4 j0 j1 j2 j3 j4;have cm:=cm (by omega);have cp:=cp (by omega);have iQ:=a9.kn.blk.2.1
            have hI:Hid (∀W,a0q I.heap.size I W->(W.cell? ⟨KB,i * 5,none⟩=some (.map x1)/\W.cell? ⟨KB,i * 5+1,none⟩=some (S x2)/\W.cell? ⟨KB,i * 5+2,none⟩=some (.slice x3 x4 x5)/\W.cell? ⟨KB,i * 5+3,none⟩=some (.int .i64 x6)/\W.cell? ⟨KB,i * 5+4,none⟩=some (.int .u8 x7.toNat))/\
             (W.cell? ⟨KB,q * 5,none⟩=some (.map y1)/\W.cell? ⟨KB,q * 5+1,none⟩=some (S y2)/\W.cell? ⟨KB,q * 5+2,none⟩=some (.slice y3 y4 y5)/\W.cell? ⟨KB,q * 5+3,none⟩=some (.int .i64 y6)/\W.cell? ⟨KB,q * 5+4,none⟩=some (.int .u8 y7.toNat))):=λW Y=>by
             have T:∀o,W.cell? ⟨KB,o,none⟩=I.cell? ⟨KB,o,none⟩:=λo=>World.cell?_of_block (a:=⟨KB,o,none⟩) (Y.block KB iQ)
             rw [T,T,T,T,T,T,T,T,T,T]
             exact ⟨⟨i0,i1,i2,i3,i4⟩,j0,j1,j2,j3,j4⟩
            have k1:i<l.length:=by omega
            have kk:i<n:=by omega
            have fz:Hid (∀W,a0q I.heap.size I W->Calls a0i 131 #[.agg #[.map x1,S x2, .slice x3 x4 x5, .int .i64 x6, .int .u8 x7.toNat], .agg #[.map y1,S y2, .slice y3 y4 y5, .int .i64 y6, .int .u8 y7.toNat]] W λe w'=>e= .returned (.int .i64 (pointsR (l.getD i rec0) (l.getD q rec0)))/\a0q W.heap.size W w'):=λW Y=>
             sf _ _ _ _ _ _ W (bU.below cm Y) (bU.below cp Y) (iW (d6 i k1)) (iW (d6 q b1))
            clear i0 i1 i2 i3 i4 j0 j1 j2 j3 j4 cm cp cq z0 z1;obtain ⟨P,hP⟩:∃P,pointsR (l.getD i rec0) (l.getD q rec0)=P:=⟨_,rfl⟩;have fy:=a0a hP;rw [hP] at fz;clear hP;go_simp;have al:a0q I.heap.size I I.drew:=(a0m _ I).drew;refine wT (λW=>a0q I.heap.size I W) 999 ?_;have cz:=tkL [0,1,2,3,4,5,6,7];repeat (refine tkIS cz ?_ rfl al ?_ ?_;rotate_left;intro w' h;obtain ⟨⟨i0,i1,i2,i3,i4⟩,j0,j1,j2,j3,j4⟩:=hI w' h;go_simp;rfl;(try go_simp);replace cz:=tkO cz)
            clear cz;refine dB 8 rfl λK hK=>?_;go_simp;go_at_call 131;refine a0C (fz _ al) ?_;rintro e M ⟨rfl,ac⟩;have ac:a0q I.heap.size I M:=al.trans (ac.mono al.size);refine hK _ _ (λ_=>ac) ?_;clear hK K;refine tkS 9 ?_ rfl ac ?_ ?_;rotate_left;intro w' h;go_simp;rfl;try go_simp
            refine dN ?_;have aC:=a0a (a9.below ac);have fp:Hid (M.ownsRow D.heap.size 9 1 (.slice (some ⟨g5,0,none⟩) u.length k5) u.length (u.map λs=>S s)):=ah d2.out (λg F=>by obtain ⟨c,L⟩:=aD d2.out F;have h5:=eQ g c 9 L;exact (ac.block g (ae (h5.trans L))).trans h5)
            have g6:Hid (M.ownsRow KB 3 1 (.slice (some ⟨gz,0,none⟩) zs.length kx) zs.length (fN zs)):=ah da.out (λg F=>by obtain ⟨c,L⟩:=aD da.out F;have h5:=eQ g c 3 L;exact (ac.block g (ae (h5.trans L))).trans h5)
            clear ac al;have c1:Hid (∀d,(cameR l q (u.take p) d=true∨d.2=q/\d.1∈zs.take (j+1))↔((cameR l q (u.take p) d=true∨d.2=q/\d.1∈zs.take j)∨d=(i,q))):=λd=>by rw [c9.out];exact sg (C:=λd=>cameR l q (u.take p) d=true) d
            by_cases hP40:40<=P
            · obtain ⟨J,ho⟩:=aC.out.out;obtain ⟨au,cu,rfl⟩:=aK ho.1;have HO:=a0a ho;have h0:J.length<=1000000:=by
               have y:=kQ (n:=l.length) (m:=J.map lY) (by
                rw [List.Nodup,a0w];refine List.Pairwise.imp ?_ ho.2.1;intro a b dx e;injection e with e1 e2
                exact dx (Prod.ext (by omega) (by omega))) (λp hp=>by
                obtain ⟨o,k6,rfl⟩:=List.mem_map.1 hp;have:=aC.cb _ (aC.ob _ ((ho.2.2 o).1 k6));exact ⟨o.1,o.2,rfl,by omega,this.2⟩)
               rw [a0c] at y;have bk:l.length<=1000:=by rw [b2.out];exact hn
               exact a0d y (a0d (a0D bk bk) (by omega))
              have ko:KB<=M.heap.size:=aC.los.2.2.2.2;obtain ⟨iN,bc,bA,bB,bO⟩:=info_parts i67;have HI:=a0a bc;have cQ:=a0a bA;have d0:=a0a bB;have d1:=a0a bO;clear ho bc bA bB bO;go_wp2_with (at_builtin;(refine wpList_append_own_at _ rfl _ _ 65 rfl KB 67 iN (.agg #[.int .i64 0, .int .i64 0]) 2 16 Tryz.underlying65 HI.out cQ.out d0.out d1.out rfl (by decide) (.slice au J.length cu) J.length (J.flatMap dw) ?_ ?_ ⟨M.heap.size,0,none⟩ 1 1 [.int .i64 (i:Int), .int .i64 (q:Int)] ?_ ?_ ?_ ?_ ?_ ?_ ?_ ?_);(focus rfl);(focus exact ah HO.out.1 (λg F=>((a0m _ M).alloc (a0b _) _).block g (HO.out.1.lt g F).2));(focus rfl);(focus rfl);(focus exact cell_two_new _ _ _ _);(focus simp [Value.oneCell']);(focus (unfold maxLen;omega));(focus omega);(focus (simp;omega));intro v' w7 bt bb _ _;have hO:=a0a bt;have f8:=a0a bb;clear bt bb)
              have dy:a0q M.heap.size M (M.alloc (.cells #[.int .i64 (i:Int), .int .i64 (q:Int)] 67)):=(a0m _ M).alloc (a0b _) _;have hS:=aC.outs (i:=i) (k:=q) (.inr rfl) (λh=>hL h.1) dy f8.out HO.out hO.out;have gt:∀{lo e n:Nat} {v:a0h} {z:List a0h},M.ownsRow lo e 1 v n z->e≠67->w7.ownsRow lo e 1 v n z:=λ{lo e n v z} U he=>ah U (λg F=>by
               have aT:=(U.lt g F).2;rw [f8.out.block g (a0u aT dy.size) (λe2=>by obtain ⟨c,L⟩:=aD U F;obtain ⟨c2,jb⟩:=aD HO.1 e2.symm;exact dj L jb he rfl)]
               exact dy.block g aT)
              go_roundw
              case rel=>
               refine ⟨j+1,hlj,by go_num,hS.congr (λ_ _=>Iff.rfl) c1.out (λd=>?_) (a0b _),gt fp.out (by decide),gt g6.out (by decide)⟩;rw [c1.out];constructor
               · rintro ⟨y|y,E⟩
                 · exact .inl ⟨y,E⟩
                 · exact .inr y
               · rintro (⟨y,E⟩|y)
                 · exact ⟨.inl y,E⟩
                 · refine ⟨.inr y,?_⟩;rw [y];dsimp only;rw [fy.out];exact hP40
              case measure=>simp [intOf];omega
            · go_wp2_with fail
              go_roundw
              case rel=>
               refine ⟨j+1,hlj,by go_num,aC.congr (λ_ _=>Iff.rfl) c1.out (λd=>?_) (a0b _),fp.out,g6.out⟩;rw [c1.out];constructor
               · rintro ⟨y|y,E⟩
                 · exact ⟨y,E⟩
                 · rw [y] at E;dsimp only at E;rw [fy.out] at E;exact absurd E hP40
               · rintro ⟨y,E⟩;exact ⟨.inl y,E⟩
              case measure=>simp [intOf];omega
          · have HC:=a0a (g3.1 rfl);go_wp2_with fail
            go_roundw
            case rel=>
             refine ⟨j+1,hlj,by go_num,hX.congr (λ_ _=>Iff.rfl) (λd=>?_) (λd=>?_) (a0b _),d2.out,da.out⟩
             · rw [c9.out];exact (mO (C:=λd=>cameR l q (u.take p) d=true) HC.out d).symm
             · rw [c9.out];exact and_congr_left' (mO (C:=λd=>cameR l q (u.take p) d=true) HC.out d).symm
            case measure=>simp [intOf];omega
        · have hw:zs.take j=zs:=a0E (by omega);have fx:Hid (PR KB (BY+2) KB BY (BY+1) w1 wr l (q+1) (gm l q (u.take p)) (λd=>cameR l q (u.take (p+1)) d=true) (λd=>cameR l q (u.take (p+1)) d=true/\40<=pointsR (l.getD d.1 rec0) (l.getD d.2 rec0)) (q * Z+p) u6):=by
           have h:=c6.out;rw [hw] at h;have e:∀d,cameR l q (u.take (p+1)) d=true↔(cameR l q (u.take p) d=true∨d.2=q/\d.1∈zs):=λd=>by rw [d8.out,vI b3.out,g7.out]
           exact h.congr (λ_ _=>Iff.rfl) e (λd=>by rw [e]) (a0b _)
          clear c6 b7 hw;have bs:¬gm l q (u.take p) s q:=by
           rintro (⟨y,_⟩|⟨_,y⟩)
           · omega
           · exact b3 y
          obtain ⟨x,ys,cq,e9,ht,hh,h3⟩:=fx.places g9 s d5.out q bs;obtain ⟨ay,ky,rfl⟩:=aK e9;have kt:ys.length<=1000:=by
           have:=eU ys (a0t n) ht (λi Q=>by rw [List.mem_range];rcases (hh i).1 Q with ⟨y,_⟩|⟨y,_⟩<;>omega)
           rw [List.length_range] at this;omega
          have g4:=a0a e9;have hW:=a0a h3;have kl:=fx.los.2.2.2.2;obtain ⟨iN,bc,bA,bB,bO⟩:=info_parts i3;have HI:=a0a bc;have cQ:=a0a bA;have d0:=a0a bB;have d1:=a0a bO;clear e9 ht hh h3 bs bc bA bB bO;have gp:a0q wr.heap.size wr (wr.alloc (.cells #[.int .i64 (q:Int)] 3)):=(a0m _ wr).alloc (a0b _) _;have bY:=a0a gp;clear gp
          go_wp2_with (first
           |(at_builtin;(refine wpList_append_own_at _ rfl _ _ 84 rfl KB 3 iN (.int .i64 0) 1 8 Tryz.underlying84 HI.out cQ.out d0.out d1.out rfl (by decide) (.slice ay ys.length ky) ys.length (fN ys) ?_ ?_ ⟨wr.heap.size,0,none⟩ 1 1 [.int .i64 (q:Int)] ?_ ?_ ?_ ?_ ?_ ?_ ?_ ?_);(focus rfl);(focus exact ah g4.out (λg F=>bY.out.block g (g4.out.lt g F).2));(focus rfl);(focus rfl);(focus exact cell_one_new _ _ _);(focus simp [Value.oneCell']);(focus (unfold maxLen;omega));(focus omega);(focus (have:=bY.out.size;omega));intro v' w7 bt bb _ gQ;obtain ⟨W8,hf,d3,gO⟩:=hW.out v' _ w7 bY.out bb bt gQ;have ia:=a0a hf;have d3:=a0a d3;have hH:=a0a gO;clear bt bb gQ hf gO)
           |(at_mapUpdate;refine wpList_plain rfl λK hK=>?_;refine fj rfl ia.out ?_;refine hK _ _ ?_))
          go_roundw
          case rel=>
           refine ⟨p+1,hlp,by go_num,d3.out.congr (λt i=>?_) (λ_=>Iff.rfl) (λ_=>Iff.rfl) (by omega),ah c5.out (λg F=>?_)⟩
           · rw [d8.out,xq]
           · obtain ⟨c,L⟩:=aD c5.out F;have E:=bY.block g (ae L);exact (hH g c (E.trans L)).trans E
          case measure=>simp [intOf];omega
     · have hV:Hid (PR KB (BY+2) KB BY (BY+1) w1 wr l (q+1) (gm l (q+1) []) (λd=>cameR l (q+1) [] d=true) (λd=>cameR l (q+1) [] d=true/\40<=pointsR (l.getD d.1 rec0) (l.getD d.2 rec0)) ((q+1) * Z) u6):=by
        have h:=b6.out;rw [a0E (by omega)] at h;refine h.congr (λs i=>?_) (λd=>?_) (λd=>?_) (by rw [Nat.succ_mul,ex.out];omega)
        · rw [xr,c3.out]
        · rw [nk,c3.out]
        · rw [nk,c3.out]
       clear b6 b4;go_wp2_with fail
       go_roundw
       case rel=>exact ⟨q+1,aT,by go_num,hV⟩
       case measure=>simp [intOf];omega
  · obtain rfl:q=n:=by omega
    obtain ⟨J,e6,b0,e7⟩:=HP.out.out;have h0:J.length<=1000000:=by
     have y:=kQ (n:=l.length) (m:=J.map lY) (by
      rw [List.Nodup,a0w];refine List.Pairwise.imp ?_ b0;intro a b dx e;injection e with e1 e2
      exact dx (Prod.ext (by omega) (by omega))) (λp hp=>by
      obtain ⟨o,ho,rfl⟩:=List.mem_map.1 hp;have:=HP.cb _ (HP.ob _ ((e7 o).1 ho));exact ⟨o.1,o.2,rfl,by omega,this.2⟩)
     rw [a0c] at y;have bk:l.length<=1000:=by rw [b2.out];exact hn
     exact a0d y (a0d (a0D bk bk) (by omega))
    have fr:Hid (cM ltRK (J.map lY)=(pairsR l).map lY):=wt b0 (λp=>sZ l J (λp=>by rw [e7,b2.out]) p);have hB:Hid (Calls a0i 132 #[u6, .func (.func 133) #[] #[]] wr λe w'=>e= .returned (.tuple #[])/\w'.ownsRow KB 67 2 u6 J.length (((pairsR l).map lY).flatMap rkCells)/\a0q KB w1 w'):=by have U:=e6;rw [tY] at U;have E:=uv KB wr u6 (J.map lY) (by rw [a0c];exact U) (by rw [a0c];exact h0);rw [a0c,fr.out] at E;refine E.mono ?_;rintro e w' ⟨a1,a2,a3,a4,a5,a6,a7⟩;refine ⟨a1,a2,HP.out.b.trans ⟨a3,a4,a5,a6,λk T=>a7 k (by have:=HP.out.los.2.2.2.2;omega) (λe=>by have:=(e6.lt k e).1;omega)⟩⟩
    have hJ:Hid (J.length=(pairsR l).length):=by have:=congrArg List.length fr.out;rw [(cR _ _).length_eq,a0c,a0c] at this;exact this
    clear e6 b0 e7;go_wp2_with (go_at_call 132;refine a0C hB.out ?_;rintro e w2 ⟨rfl,b0,b8⟩;have hM:=a0a b0;have hC:=a0a b8;clear b0 b8)
    refine bodyPost_ret (results_tmp rfl _ _ _) rfl ⟨u6,rfl,?_,?_⟩
    · rw [f9.out, <- hJ.out,tY];exact hM.out
    · exact es.out.trans (hC.out.mono (by rw [f9.out];exact a0b _))
end
end Go.Proofs.YtjcimanddakkaaaGreatDoor
