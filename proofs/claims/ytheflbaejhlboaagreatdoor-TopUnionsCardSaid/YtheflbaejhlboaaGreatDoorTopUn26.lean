/- A part of the proof of a law of package confluencetop: lemmas, no condition of ours. -/
import Derived.Test.YtheflbaejhlboaaGreatDoorTopUn25
set_option linter.unusedVariables false
set_option linter.unusedSectionVars false
set_option linter.unusedSimpArgs false
namespace Go.Proofs.YtheflbaejhlboaaGreatDoor.Ev
open Go Go.Proofs
set_option maxRecDepth 1000000
noncomputable section
def pU0:Ent:=⟨97,[(vX 59 1960657240238121825492023477752792373057968086568079500729256495662424762227236032501201714568396830581256318761216822252512454394820470666536)],
 [],
 0,(.tuple [(.agg [(vI 5),(vX 0 0),.Za,.Za,.Za,.Za,.Za,(vL 192 0 2)]),(vI 0),(vI 0)]),
 [(143,bO [(vX 1 120)] 1),
 (150,bO [(vI 1),(vX 1 97),(vI 0),.Za] 4),
 (159,bO [(vI 1),(vX 1 116),.Za,.Za,.Za,.Za,.Za,.Za] 8),
 (174,bO [(vX 1 121)] 1),
 (181,bO [(vI 1),(vX 1 97),(vI 0),.Za] 4),
 (190,bO [(vI 1),(vX 1 117),.Za,.Za,.Za,.Za,.Za,.Za] 8),
 (192,bO [(vI 3),(vX 0 0),(vL 150 0 1),(vL 143 0 1),.Za,.Za,.Za,(vL 159 0 1),(vI 3),(vX 0 0),(vL 181 0 1),(vL 174 0 1),.Za,.Za,.Za,(vL 190 0 1)] 8)],332⟩
def pU1:Ent:=⟨97,[(vX 70 606793958761463210519290440890407892812007683134722390452805300649792866988389145326142340182353046755310870112199528858322115399226838656857566278045497261940420469800)],
 [],
 0,(.tuple [(.agg [(vI 6),(vX 0 0),.Za,.Za,.Za,.Za,.Za,(vL 214 0 1)]),(vI 0),(vI 0)]),
 [(163,bO [(vX 1 120)] 1),
 (170,bO [(vI 1),(vX 1 97),(vI 0),.Za] 4),
 (179,bO [(vI 1),(vX 1 116),.Za,.Za,.Za,.Za,.Za,.Za] 8),
 (194,bO [(vX 1 121)] 1),
 (201,bO [(vI 1),(vX 1 97),(vI 0),.Za] 4),
 (210,bO [(vI 1),(vX 1 117),.Za,.Za,.Za,.Za,.Za,.Za] 8),
 (212,bO [(vI 3),(vX 0 0),(vL 170 0 1),(vL 163 0 1),.Za,.Za,.Za,(vL 179 0 1),(vI 3),(vX 0 0),(vL 201 0 1),(vL 194 0 1),.Za,.Za,.Za,(vL 210 0 1)] 8),
 (214,bO [(vI 5),(vX 0 0),.Za,.Za,.Za,.Za,.Za,(vL 212 0 2)] 8)],372⟩
def RL:List (Nat×Orc):=[(97,upO [pU0,pU1])]
def ZiM:List (Nat×Zd):=[(0,bC [(vP 1 0),(vL 5 0 2),(vM 8),(vP 9 0)] 0),
 (1,bC [(vL 2 0 2),.Za] 0),
 (2,bO [(vX 1 116),(vL 3 0 3),(vX 1 117),(vL 4 0 2)] 2),
 (3,bO [(vX 1 97),(vI 1),(vX 1 98),(vI 1),(vX 1 115),(vI 2)] 2),
 (4,bO [(vX 1 97),(vI 1),(vX 1 99),(vI 1)] 2),
 (5,bO [(vX 1 116),(vL 6 0 3),.Za,(vX 1 117),(vL 7 0 2),.Za] 3),
 (6,bO [(vX 1 97),(vI 1),(vX 1 98),(vI 1),(vX 1 115),(vI 2)] 2),
 (7,bO [(vX 1 97),(vI 1),(vX 1 99),(vI 1)] 2),
 (8,bM [] 0),
 (9,bC [(vI 2),(vI 0),(vI 0),(vX 0 0),(vI 0),(vI 0),(vI 0),(vX 0 0),(vI 0),(vI 0),(vI 0),(vX 0 0),(vI 0),(vI 0),(vI 0),(vX 0 0),(vI 0),(vI 0),(vI 0),(vX 0 0),(vI 0),(vI 0),(vI 0),(vX 0 0),(vI 0),(vI 0),(vI 0),(vX 0 0),(vI 0),(vI 0),(vI 0),(vX 0 0),(vI 0),(vI 0),(vI 0),(vX 0 0),(vI 0),(vI 0),(vI 0),(vX 0 0),(vI 0),(vI 0),(vI 0),(vX 0 0),(vI 0),(vI 0),(vI 0),(vX 0 0),(vI 0),(vI 0),(vI 0),(vX 0 0),(vI 0),(vI 0),(vI 0),(vX 0 0),(vI 0),(vI 0),(vI 0),(vX 0 0),(vI 0),(vI 0),(vI 0),(vX 0 0)] 0)]
def ZiN:List (Nat×Zd):=[(0,bC [(vP 1 0),(vL 14 0 2),(vM 17),(vP 45 0)] 0),
 (1,bC [(vL 2 0 2),(vL 5 0 1)] 0),
 (2,bO [(vX 1 116),(vL 3 0 3),(vX 1 117),(vL 4 0 2)] 2),
 (3,bO [(vX 1 97),(vI 1),(vX 1 98),(vI 1),(vX 1 115),(vI 2)] 2),
 (4,bO [(vX 1 97),(vI 1),(vX 1 99),(vI 1)] 2),
 (5,bO [(vX 3 7105633),(vX 59 1960657240238121825492023477752792373057968086568079500729256495662424762227236032501201714568396830581256318761216822252512454394820470666536),(vI 5),(vX 0 0),.Za,.Za,.Za,.Za,.Za,(vL 6 0 2),(vL 13 0 1)] 11),
 (6,bO [(vI 3),(vX 0 0),(vL 7 0 1),(vL 8 0 1),.Za,.Za,.Za,(vL 9 0 1),(vI 3),(vX 0 0),(vL 10 0 1),(vL 11 0 1),.Za,.Za,.Za,(vL 12 0 1)] 8),
 (7,bO [(vI 1),(vX 1 97),(vI 0),.Za] 4),
 (8,bO [(vX 1 120)] 1),
 (9,bO [(vI 1),(vX 1 116),.Za,.Za,.Za,.Za,.Za,.Za] 8),
 (10,bO [(vI 1),(vX 1 97),(vI 0),.Za] 4),
 (11,bO [(vX 1 121)] 1),
 (12,bO [(vI 1),(vX 1 117),.Za,.Za,.Za,.Za,.Za,.Za] 8),
 (13,bO [(vX 1 120),(vI 1)] 2),
 (14,bO [(vX 1 116),(vL 15 0 3),.Za,(vX 1 117),(vL 16 0 2),.Za] 3),
 (15,bO [(vX 1 97),(vI 1),(vX 1 98),(vI 1),(vX 1 115),(vI 2)] 2),
 (16,bO [(vX 1 97),(vI 1),(vX 1 99),(vI 1)] 2),
 (17,bM [((vX 3 7105633),(vP 18 0),0)] 1),
 (18,bC [(vP 19 0),(vL 41 0 2),(vM 44)] 0),
 (19,bC [(vI 5),(vX 0 0),.Za,.Za,.Za,.Za,.Za,(vL 20 0 2),(vL 27 0 1),(vL 28 0 2),(vL 40 0 2),.Za,.Zh,.Zh,.Zh] 0),
 (20,bO [(vI 3),(vX 0 0),(vL 21 0 1),(vL 22 0 1),.Za,.Za,.Za,(vL 23 0 1),(vI 3),(vX 0 0),(vL 24 0 1),(vL 25 0 1),.Za,.Za,.Za,(vL 26 0 1)] 8),
 (21,bO [(vI 1),(vX 1 97),(vI 0),.Za] 4),
 (22,bO [(vX 1 120)] 1),
 (23,bO [(vI 1),(vX 1 116),.Za,.Za,.Za,.Za,.Za,.Za] 8),
 (24,bO [(vI 1),(vX 1 97),(vI 0),.Za] 4),
 (25,bO [(vX 1 121)] 1),
 (26,bO [(vI 1),(vX 1 117),.Za,.Za,.Za,.Za,.Za,.Za] 8),
 (27,bO [(vX 1 120),(vI 1)] 2),
 (28,bO [(vP 29 0),(vP 34 0)] 1),
 (29,bC [(vI 3),(vX 0 0),(vL 21 0 1),(vL 22 0 1),.Za,.Za,.Za,(vL 23 0 1),(vL 27 0 1),(vL 30 0 1),(vL 33 0 1),.Za,.Zh,.Zh,.Zh] 0),
 (30,bO [(vP 31 0)] 1),
 (31,bC [(vI 1),(vX 1 116),.Za,.Za,.Za,.Za,.Za,.Za,(vL 32 0 3),.Za,.Za,.Za,.Zh,.Zh,.Zh] 0),
 (32,bO [(vX 1 97),(vI 1),(vX 1 98),(vI 1),(vX 1 115),(vI 2)] 2),
 (33,bO [(vL 32 0 3)] 1),
 (34,bC [(vI 3),(vX 0 0),(vL 24 0 1),(vL 25 0 1),.Za,.Za,.Za,(vL 26 0 1),(vL 35 0 1),(vL 36 0 1),(vL 39 0 1),.Za,.Zh,.Zh,.Zh] 0),
 (35,bO [(vX 1 121),(vI 1)] 2),
 (36,bO [(vP 37 0)] 1),
 (37,bC [(vI 1),(vX 1 117),.Za,.Za,.Za,.Za,.Za,.Za,(vL 38 0 2),.Za,.Za,.Za,.Zh,.Zh,.Zh] 0),
 (38,bO [(vX 1 97),(vI 1),(vX 1 99),(vI 1)] 2),
 (39,bO [(vL 38 0 2)] 1),
 (40,bO [(vL 27 0 1),(vL 35 0 1)] 1),
 (41,bO [(vX 1 116),(vL 42 0 3),(vX 1 117),(vL 43 0 2)] 2),
 (42,bO [(vX 1 97),(vI 1),(vX 1 98),(vI 1),(vX 1 115),(vI 2)] 2),
 (43,bO [(vX 1 97),(vI 1),(vX 1 99),(vI 1)] 2),
 (44,bM [((vX 1 116),.Za,0),((vX 1 117),.Za,1)] 2),
 (45,bC [(vI 3),(vI 0),(vI 0),(vX 0 0),(vI 0),(vI 0),(vI 0),(vX 0 0),(vI 0),(vI 0),(vI 0),(vX 0 0),(vI 0),(vI 0),(vI 0),(vX 0 0),(vI 0),(vI 0),(vI 0),(vX 0 0),(vI 0),(vI 0),(vI 0),(vX 0 0),(vI 0),(vI 0),(vI 0),(vX 0 0),(vI 0),(vI 0),(vI 0),(vX 0 0),(vI 0),(vI 0),(vI 0),(vX 0 0),(vI 0),(vI 0),(vI 0),(vX 0 0),(vI 0),(vI 0),(vI 0),(vX 0 0),(vI 0),(vI 0),(vI 0),(vX 0 0),(vI 0),(vI 0),(vI 0),(vX 0 0),(vI 0),(vI 0),(vI 0),(vX 0 0),(vI 0),(vI 0),(vI 0),(vX 0 0),(vI 0),(vI 0),(vI 0),(vX 0 0)] 0)]
def ZfX:List (Nat×Zd):=[(0,bC [(vP 1 0),(vL 23 0 2),(vM 28),(vP 102 0)] 0),
 (1,bC [(vL 2 0 2),(vL 5 0 2)] 0),
 (2,bO [(vX 1 116),(vL 3 0 3),(vX 1 117),(vL 4 0 2)] 2),
 (3,bO [(vX 1 97),(vI 1),(vX 1 98),(vI 1),(vX 1 115),(vI 2)] 2),
 (4,bO [(vX 1 97),(vI 1),(vX 1 99),(vI 1)] 2),
 (5,bO [(vX 3 7105633),(vX 59 1960657240238121825492023477752792373057968086568079500729256495662424762227236032501201714568396830581256318761216822252512454394820470666536),(vI 5),(vX 0 0),.Za,.Za,.Za,.Za,.Za,(vL 6 0 2),(vL 13 0 1),(vX 4 1701015151),(vX 70 606793958761463210519290440890407892812007683134722390452805300649792866988389145326142340182353046755310870112199528858322115399226838656857566278045497261940420469800),(vI 6),(vX 0 0),.Za,.Za,.Za,.Za,.Za,(vL 14 0 1),(vL 22 0 1)] 11),
 (6,bO [(vI 3),(vX 0 0),(vL 7 0 1),(vL 8 0 1),.Za,.Za,.Za,(vL 9 0 1),(vI 3),(vX 0 0),(vL 10 0 1),(vL 11 0 1),.Za,.Za,.Za,(vL 12 0 1)] 8),
 (7,bO [(vI 1),(vX 1 97),(vI 0),.Za] 4),
 (8,bO [(vX 1 120)] 1),
 (9,bO [(vI 1),(vX 1 116),.Za,.Za,.Za,.Za,.Za,.Za] 8),
 (10,bO [(vI 1),(vX 1 97),(vI 0),.Za] 4),
 (11,bO [(vX 1 121)] 1),
 (12,bO [(vI 1),(vX 1 117),.Za,.Za,.Za,.Za,.Za,.Za] 8),
 (13,bO [(vX 1 120),(vI 1)] 2),
 (14,bO [(vI 5),(vX 0 0),.Za,.Za,.Za,.Za,.Za,(vL 15 0 2)] 8),
 (15,bO [(vI 3),(vX 0 0),(vL 16 0 1),(vL 17 0 1),.Za,.Za,.Za,(vL 18 0 1),(vI 3),(vX 0 0),(vL 19 0 1),(vL 20 0 1),.Za,.Za,.Za,(vL 21 0 1)] 8),
 (16,bO [(vI 1),(vX 1 97),(vI 0),.Za] 4),
 (17,bO [(vX 1 120)] 1),
 (18,bO [(vI 1),(vX 1 116),.Za,.Za,.Za,.Za,.Za,.Za] 8),
 (19,bO [(vI 1),(vX 1 97),(vI 0),.Za] 4),
 (20,bO [(vX 1 121)] 1),
 (21,bO [(vI 1),(vX 1 117),.Za,.Za,.Za,.Za,.Za,.Za] 8),
 (22,bO [(vX 1 120),(vI 1)] 2),
 (23,bO [(vX 1 116),(vL 24 0 3),(.gho 25 1),(vX 1 117),(vL 26 0 2),(.gho 27 2)] 3),
 (24,bO [(vX 1 97),(vI 1),(vX 1 98),(vI 1),(vX 1 115),(vI 2)] 2),
 (26,bO [(vX 1 97),(vI 1),(vX 1 99),(vI 1)] 2),
 (28,bM [((vX 3 7105633),(vP 29 0),0),((vX 4 1701015151),(vP 63 0),1)] 2),
 (29,bC [(vP 30 0),(vL 57 0 2),(vM 60)] 0),
 (30,bC [(vI 5),(vX 0 0),.Za,.Za,.Za,.Za,.Za,(vL 31 0 2),(vL 38 0 1),(vL 39 0 2),(vL 55 0 2),(.gho 56 5),.Zh,.Zh,.Zh] 0),
 (31,bO [(vI 3),(vX 0 0),(vL 32 0 1),(vL 33 0 1),.Za,.Za,.Za,(vL 34 0 1),(vI 3),(vX 0 0),(vL 35 0 1),(vL 36 0 1),.Za,.Za,.Za,(vL 37 0 1)] 8),
 (32,bO [(vI 1),(vX 1 97),(vI 0),.Za] 4),
 (33,bO [(vX 1 120)] 1),
 (34,bO [(vI 1),(vX 1 116),.Za,.Za,.Za,.Za,.Za,.Za] 8),
 (35,bO [(vI 1),(vX 1 97),(vI 0),.Za] 4),
 (36,bO [(vX 1 121)] 1),
 (37,bO [(vI 1),(vX 1 117),.Za,.Za,.Za,.Za,.Za,.Za] 8),
 (38,bO [(vX 1 120),(vI 1)] 2),
 (39,bO [(vP 40 0),(vP 47 0)] 1),
 (40,bC [(vI 3),(vX 0 0),(vL 32 0 1),(vL 33 0 1),.Za,.Za,.Za,(vL 34 0 1),(vL 38 0 1),(vL 41 0 1),(vL 45 0 1),(.gho 46 3),.Zh,.Zh,.Zh] 0),
 (41,bO [(vP 42 0)] 1),
 (42,bC [(vI 1),(vX 1 116),.Za,.Za,.Za,.Za,.Za,.Za,(vL 43 0 3),.Za,.Za,(.gho 44 1),.Zh,.Zh,.Zh] 0),
 (43,bO [(vX 1 97),(vI 1),(vX 1 98),(vI 1),(vX 1 115),(vI 2)] 2),
 (45,bO [(vL 43 0 3)] 1),
 (47,bC [(vI 3),(vX 0 0),(vL 35 0 1),(vL 36 0 1),.Za,.Za,.Za,(vL 37 0 1),(vL 48 0 1),(vL 49 0 1),(vL 53 0 1),(.gho 54 4),.Zh,.Zh,.Zh] 0),
 (48,bO [(vX 1 121),(vI 1)] 2),
 (49,bO [(vP 50 0)] 1),
 (50,bC [(vI 1),(vX 1 117),.Za,.Za,.Za,.Za,.Za,.Za,(vL 51 0 2),.Za,.Za,(.gho 52 2),.Zh,.Zh,.Zh] 0),
 (51,bO [(vX 1 97),(vI 1),(vX 1 99),(vI 1)] 2),
 (53,bO [(vL 51 0 2)] 1),
 (55,bO [(vL 38 0 1),(vL 48 0 1)] 1),
 (57,bO [(vX 1 116),(vL 58 0 3),(vX 1 117),(vL 59 0 2)] 2),
 (58,bO [(vX 1 97),(vI 1),(vX 1 98),(vI 1),(vX 1 115),(vI 2)] 2),
 (59,bO [(vX 1 97),(vI 1),(vX 1 99),(vI 1)] 2),
 (60,bM [((vX 1 116),(.gho 61 1),0),((vX 1 117),(.gho 62 2),1)] 2),
 (63,bC [(vP 64 0),(vL 96 0 2),(vM 99)] 0),
 (64,bC [(vI 6),(vX 0 0),.Za,.Za,.Za,.Za,.Za,(vL 65 0 1),(vL 73 0 1),(vL 74 0 1),(vL 94 0 1),(.gho 95 6),.Zh,.Zh,.Zh] 0),
 (65,bO [(vI 5),(vX 0 0),.Za,.Za,.Za,.Za,.Za,(vL 66 0 2)] 8),
 (66,bO [(vI 3),(vX 0 0),(vL 67 0 1),(vL 68 0 1),.Za,.Za,.Za,(vL 69 0 1),(vI 3),(vX 0 0),(vL 70 0 1),(vL 71 0 1),.Za,.Za,.Za,(vL 72 0 1)] 8),
 (67,bO [(vI 1),(vX 1 97),(vI 0),.Za] 4),
 (68,bO [(vX 1 120)] 1),
 (69,bO [(vI 1),(vX 1 116),.Za,.Za,.Za,.Za,.Za,.Za] 8),
 (70,bO [(vI 1),(vX 1 97),(vI 0),.Za] 4),
 (71,bO [(vX 1 121)] 1),
 (72,bO [(vI 1),(vX 1 117),.Za,.Za,.Za,.Za,.Za,.Za] 8),
 (73,bO [(vX 1 120),(vI 1)] 2),
 (74,bO [(vP 75 0)] 1),
 (75,bC [(vI 5),(vX 0 0),.Za,.Za,.Za,.Za,.Za,(vL 66 0 2),(vL 73 0 1),(vL 76 0 2),(vL 92 0 2),(.gho 93 5),.Zh,.Zh,.Zh] 0),
 (76,bO [(vP 77 0),(vP 84 0)] 1),
 (77,bC [(vI 3),(vX 0 0),(vL 67 0 1),(vL 68 0 1),.Za,.Za,.Za,(vL 69 0 1),(vL 73 0 1),(vL 78 0 1),(vL 82 0 1),(.gho 83 3),.Zh,.Zh,.Zh] 0),
 (78,bO [(vP 79 0)] 1),
 (79,bC [(vI 1),(vX 1 116),.Za,.Za,.Za,.Za,.Za,.Za,(vL 80 0 3),.Za,.Za,(.gho 81 1),.Zh,.Zh,.Zh] 0),
 (80,bO [(vX 1 97),(vI 1),(vX 1 98),(vI 1),(vX 1 115),(vI 2)] 2),
 (82,bO [(vL 80 0 3)] 1),
 (84,bC [(vI 3),(vX 0 0),(vL 70 0 1),(vL 71 0 1),.Za,.Za,.Za,(vL 72 0 1),(vL 85 0 1),(vL 86 0 1),(vL 90 0 1),(.gho 91 4),.Zh,.Zh,.Zh] 0),
 (85,bO [(vX 1 121),(vI 1)] 2),
 (86,bO [(vP 87 0)] 1),
 (87,bC [(vI 1),(vX 1 117),.Za,.Za,.Za,.Za,.Za,.Za,(vL 88 0 2),.Za,.Za,(.gho 89 2),.Zh,.Zh,.Zh] 0),
 (88,bO [(vX 1 97),(vI 1),(vX 1 99),(vI 1)] 2),
 (90,bO [(vL 88 0 2)] 1),
 (92,bO [(vL 73 0 1),(vL 85 0 1)] 1),
 (94,bO [(vL 73 0 1)] 1),
 (96,bO [(vX 1 116),(vL 97 0 3),(vX 1 117),(vL 98 0 2)] 2),
 (97,bO [(vX 1 97),(vI 1),(vX 1 98),(vI 1),(vX 1 115),(vI 2)] 2),
 (98,bO [(vX 1 97),(vI 1),(vX 1 99),(vI 1)] 2),
 (99,bM [((vX 1 116),(.gho 100 1),0),((vX 1 117),(.gho 101 2),1)] 2),
 (102,bC [(vI 4),(vI 0),(vI 0),(vX 0 0),(.sint .i64 (.ofNat 0) (.ofNat 1) (.ofNat 0)),(.sint .i64 (.ofNat 0) (.ofNat 0) (.ofNat 1)),(vI 0),(vX 0 0),(vI 0),(vI 0),(vI 0),(vX 0 0),(vI 0),(vI 0),(vI 0),(vX 0 0),(vI 0),(vI 0),(vI 0),(vX 0 0),(vI 0),(vI 0),(vI 0),(vX 0 0),(vI 0),(vI 0),(vI 0),(vX 0 0),(vI 0),(vI 0),(vI 0),(vX 0 0),(vI 0),(vI 0),(vI 0),(vX 0 0),(vI 0),(vI 0),(vI 0),(vX 0 0),(vI 0),(vI 0),(vI 0),(vX 0 0),(vI 0),(vI 0),(vI 0),(vX 0 0),(vI 0),(vI 0),(vI 0),(vX 0 0),(vI 0),(vI 0),(vI 0),(vX 0 0),(vI 0),(vI 0),(vI 0),(vX 0 0),(vI 0),(vI 0),(vI 0),(vX 0 0)] 0)]
def V2:Vd:=⟨false,0,0,BB 10 [],[],[],[],ZiM,10⟩
def V3:Vd:=⟨false,0,0,BB 46 [],[],[],[],ZiN,46⟩
def V4:Vd:=⟨true,0,0,[0,1,2,3,4,5,6,7,8,9,10,11,12,13,14,15,16,17,18,19,20,21,22,23,24,26,28,29,30,31,32,33,34,35,36,37,38,39,40,41,42,43,45,47,48,49,50,51,53,55,57,58,59,60,63,64,65,66,67,68,69,70,71,72,73,74,75,76,77,78,79,80,82,84,85,86,87,88,90,92,94,96,97,98,99,102],[(25,0),(27,0),(44,0),(46,0),(52,0),(54,0),(56,0),(61,0),(62,0),(81,0),(83,0),(89,0),(91,0),(93,0),(95,0),(100,0),(101,0)],[],[1,2,3,4,5,6],ZfX,103⟩
def VU (u:Bool):Vd:=⟨false,1,0,BB 103 [],[],sel u [(1,1),(9,2),(3,3),(10,4),(11,5),(12,6)] [(9,1),(2,2),(10,3),(4,4),(11,5),(12,6)],[],ZfX,103⟩
def VA:Vd:=⟨false,1,25,BB 103 [],[],[(1,1),(2,2),(3,3),(4,4),(5,5),(6,6)],[],ZfX,103⟩
def eT1:Zc:=(.agg [(vI 0),(vI 0),(vI 1),(vX 1 116),(vX 0 0),(vL 7 0 3),.Za])
def eT2:Zc:=(.agg [(vI 0),(vI 0),(vI 1),(vX 1 117),(vX 0 0),(vL 11 0 2),.Za])
def eT3:Zc:=(.agg [(vI 0),(vI 0),(vI 3),(vX 3 7105633),(vX 59 1960657240238121825492023477752792373057968086568079500729256495662424762227236032501201714568396830581256318761216822252512454394820470666536),.Za,.Za])
def eT4:Zc:=(.agg [(vI 0),(vI 0),(vI 3),(vX 4 1701015151),(vX 70 606793958761463210519290440890407892812007683134722390452805300649792866988389145326142340182353046755310870112199528858322115399226838656857566278045497261940420469800),.Za,.Za])
def Zdz:Zc:=(.str [97,108,108])
def tx3:Zc:=(.str [40,117,110,105,111,110,32,40,112,114,111,106,101,99,116,32,40,120,32,97,41,32,40,116,97,98,108,101,32,116,41,41,32,40,112,114,111,106,101,99,116,32,40,121,32,97,41,32,40,116,97,98,108,101,32,117,41,41,41])
def ZdA:Zc:=(.str [111,110,99,101])
def tx4:Zc:=(.str [40,100,105,115,116,105,110,99,116,32,40,117,110,105,111,110,32,40,112,114,111,106,101,99,116,32,40,120,32,97,41,32,40,116,97,98,108,101,32,116,41,41,32,40,112,114,111,106,101,99,116,32,40,121,32,97,41,32,40,116,97,98,108,101,32,117,41,41,41,41])
def P9:Zc := .agg [vI 0,vI 0,vX 0 0]
def ZfY:Zc := .agg [vI 25,vI 0,vX 0 0]
def BRd:VO:={ fn:=fun f=>fnT.get f,Zi:=KM,reg:=fun _ _=>none,orc:=fun f=>(Z0 (OL++RL) .lf).get f }
def BG (t:Tb):VO:={ fn:=fun f=>fnT.get f,Zi:=KM,reg:=fun _ _=>none,orc:=fun f=>(Z0 (OL++(RL++glL t)) .lf).get f }
def cR0:Zu:=Rw Tryz.prog BRd ME 1000000 200
def cG0 (t:Tb):Zu:=Rw Tryz.prog (BG t) ME 1000000 200
def tbR (u:Bool):Tb:={ copy:=[(1,1),(2,2)],UW:=[1,2],plain:=[1,2],rows:=[(8,sel u [1,1] [1,1,2])],kinds:=[(1,[1,1,2]),(2,[1,1])],UX:=[(sel u 2 1,8,false)] }
def tbU (u b:Bool):Tb:={
 add:=sel u [(9,17,13),(1,16,7),(2,13,9),(4,14,10),(3,7,3),(1,7,1),(7,14,14),(5,14,11),(6,15,12)] [(9,16,13),(2,17,7),(1,13,9),(3,14,10),(4,7,4),(2,7,2),(14,7,14),(5,14,11),(6,15,12)]
 put:=[(sel u 2 1,8,b,9)],flip:=[(1,16),(2,17)],copy:=[(1,1),(2,2),(15,15),(14,14)],UW:=[1,2,9,13,7],plain:=[1,2,9],FG:=[1,2,3,4,9,10,11,12],FH:=[1,2],rows:=[(8,sel u [1,1] [1,1,2])],
 kinds:=[(1,[1,1,2]),(2,[1,1]),(13,sel u [1,1] [1,1,2]),(7,sel u [1,1,2] [1,1])],UX:=sel b [] [(sel u 2 1,8,true)],dis:=[(14,11,6,15)],proj:=[(13,14),(7,7)] }
def tbE:Tb:={ copy:=[(1,1),(2,2),(5,5),(6,6)] }
def ZfZ (u:Bool):Zc:=sel u (.str [117]) (.str [116])
def stU (u b:Bool):St:=((VA.S).TB).new (.cells [ZfZ u,.gho 103 8,.bool b] 3 false)
def Kp (cG:Zu) (V:Vd) (u b:Bool) (rep:Zc):Bool :=
 Jl (cG 16 [.slice 104 0 1 none] (stU u b)) fun e s=>Jl (cG 11 [e,vI 1,.sint .i64 (.ofNat 1) (.ofNat 1) (.ofNat 0)] s) fun b s =>
  Jl (cG 10 [.ptr 0 0,b] s) fun r s=>sel (Jz r rep) (Wl V (.ptr 0 0) s) false
def Zh4 (cR:Zu):Bool :=
 Jl (cR 9 [] ⟨.lf,0⟩) fun g s=>sel (Jz g (.ptr 3 0)) (Jl (cR 25 [] s) fun ct s=>Jl (cR 12 [.str [116],ct] s) fun e1 s=>sel (Jz e1 eT1)
  (Jl (cR 13 [] s) fun cu s=>Jl (cR 12 [.str [117],cu] s) fun e2 s=>sel (Jz e2 eT2)
  (Jl (cR 14 [Zdz,tx3] s) fun e3 s=>sel (Jz e3 eT3) (Jl (cR 14 [ZdA,tx4] s) fun e4 s=>sel (Jz e4 eT4)
  (Jl (cR 11 [eT1,vI 0,vI 1] s) fun b s=>Jl (cR 10 [.ptr 3 0,b] s) fun r s=>sel (Jz r P9)
  (Jl (cR 11 [eT2,vI 0,vI 2] s) fun b s=>Jl (cR 10 [.ptr 3 0,b] s) fun r s=>sel (Jz r P9) (Wl V2 (.ptr 3 0) s) false) false) false) false) false) false) false
def preB (cR:Zu) (V V':Vd) (e:Zc) (k:Nat):Bool:=Jl (cR 11 [e,vI 0,vI k] V.S) fun b s=>Jl (cR 10 [.ptr 0 0,b] s) fun r s=>sel (Jz r P9) (Wl V' (.ptr 0 0) s) false
def isSet (v:Zc) (t:Nat):Bool:=match v with
 | .tuple [.gho _ a,.bool true]=>Nat.beq a t
 | _=>false
def ZeL (cG:Zu):Bool:=Jl (cG 29 [.ptr 0 0,.str [116]] VA.S) fun r s=>sel (isSet r 1) (Jl (cG 29 [.ptr 0 0,.str [117]] s) fun r s=>sel (isSet r 2)
 (Jl (cG 19 [.ptr 0 0,Zdz] s) fun r s=>sel (isSet r 5) (Jl (cG 19 [.ptr 0 0,ZdA] s) fun r s=>isSet r 6) false) false) false
end
end Go.Proofs.YtheflbaejhlboaaGreatDoor.Ev
namespace Go.Proofs.YtheflbaejhlboaaGreatDoor
open Go
def Ce (r:List Vl):Prop:=∃ (n m:Int) (s:List UInt8),r=[⟨1,n,[]⟩,⟨1,m,[]⟩,⟨2,0,s⟩] ∧ -3≤n∧n≤3∧s.length≤2
def Cf (r:List Vl):Prop:=∃ (n m:Int),r=[⟨1,n,[]⟩,⟨1,m,[]⟩] ∧ -3≤n∧n≤3
def FJ (u:Bool) (r:List Vl):Prop:=if u then Cf r else Ce r
theorem Ce.right {r:List Vl} (h:Ce r):Zl r=true∧Zl (r.take 1)=true∧r.map (·.k)=[1,1,2]:=by
 obtain ⟨n,m,s,rfl,h1,h2,h3⟩:=h
 refine ⟨?_,?_,rfl⟩
 ·simp [Zl,Vl.right]; omega
 ·simp [Zl,Vl.right]
theorem Cf.right {r:List Vl} (h:Cf r):Zl r=true∧Zl (r.take 1)=true∧r.map (·.k)=[1,1]:=by
 obtain ⟨n,m,rfl,h1,h2⟩:=h
 refine ⟨?_,?_,rfl⟩
 ·simp [Zl,Vl.right]
 ·simp [Zl,Vl.right]
theorem FJ.right {u:Bool} {r:List Vl} (h:FJ u r):Zl r=true∧Zl (r.take 1)=true∧r.map (·.k)=if u then [1,1] else [1,1,2]:=by
 cases u
 ·exact Ce.right h
 ·exact Cf.right h
structure Kq where
 T:Zs
 U:Zs
 P:Zs
 Q:Zs
 A:Zs
structure Jm (k:Nat) (σ : Kq):Prop where
 t:Bd k σ.T
 u:Bd k σ.U
 p:Bd k σ.P
 q:Bd k σ.Q
 a:Bd k σ.A
 hp:∀ r,nf σ.P r=nf (prS σ.T) r
 hq:∀ r,nf σ.Q r=nf (prS σ.U) r
 ha:∀ r,nf σ.A r=nf (prS σ.T) r+nf (prS σ.U) r
 RX:∀ p ∈ σ.T,0≤p.2
 Ma:∀ p ∈ σ.U,0≤p.2
 FK:∀ p ∈ σ.T,Ce p.1
 FL:∀ p ∈ σ.U,Cf p.1
def Kq.tab (σ : Kq) (u:Bool):Zs:=if u then σ.U else σ.T
def sd (b:Bool):Int:=if b then 1 else -1
def Kq.step (σ : Kq) (u b:Bool) (x:List Vl):Kq :=
 if u then ⟨σ.T,ZV x (sd b) σ.U,σ.P,ZV (x.take 1) (sd b) σ.Q,ZV (x.take 1) (sd b) σ.A⟩
 else ⟨ZV x (sd b) σ.T,σ.U,ZV (x.take 1) (sd b) σ.P,σ.Q,ZV (x.take 1) (sd b) σ.A⟩
theorem Jm.mono {k m:Nat} {σ : Kq} (h:Jm k σ) (hk:k≤m):Jm m σ :=
 ⟨h.t.mono hk,h.u.mono hk,h.p.mono hk,h.q.mono hk,h.a.mono hk,h.hp,h.hq,h.ha,h.RX,h.Ma,h.FK,h.FL⟩
theorem ZeM (b:Bool):sd b=1∨sd b = -1:=by cases b <;> simp [sd]
theorem Zb4 (b:Bool):sd b≠0:=by cases b <;> simp [sd]
theorem Jm.step {k:Nat} {σ : Kq} (h:Jm k σ) {u b:Bool} {x:List Vl} (hx:FJ u x) (hb:b=false→1≤nf (σ.tab u) x):Jm (k+1) (σ.step u b x):=by
 obtain ⟨r1,r2,r3⟩:=hx.right
 have hs:=ZeM b
 cases u
 ·have hpos:0≤nf σ.T x+sd b:=by
   cases b
   ·have h1:1≤nf σ.T x:=hb rfl
    simp only [sd]; simp; omega
   ·have:=Vc h.RX x
    simp only [sd]; simp; omega
  show Jm (k+1) ⟨ZV x (sd b) σ.T,σ.U,ZV (x.take 1) (sd b) σ.P,σ.Q,ZV (x.take 1) (sd b) σ.A⟩
  exact ⟨h.t.ZV r1 hs,h.u.mono (Nat.le_succ _),h.p.ZV r2 hs,h.q.mono (Nat.le_succ _),h.a.ZV r2 hs,fun r=>by rw [JX,To,h.hp],h.hq,fun r=>by simp only; rw [JX,To,h.ha]; omega,FB h.t.set h.RX r1 (Zb4 b) hpos,h.Ma,
   fun p hp=>(Tn hp).elim (fun e=>e▸hx) fun ⟨q,h1,h2⟩=>h2▸h.FK q h1,h.FL⟩
 ·have hpos:0≤nf σ.U x+sd b:=by
   cases b
   ·have h1:1≤nf σ.U x:=hb rfl
    simp only [sd]; simp; omega
   ·have:=Vc h.Ma x
    simp only [sd]; simp; omega
  show Jm (k+1) ⟨σ.T,ZV x (sd b) σ.U,σ.P,ZV (x.take 1) (sd b) σ.Q,ZV (x.take 1) (sd b) σ.A⟩
  exact ⟨h.t.mono (Nat.le_succ _),h.u.ZV r1 hs,h.p.mono (Nat.le_succ _),h.q.ZV r2 hs,h.a.ZV r2 hs,h.hp,fun r=>by rw [JX,To,h.hq],fun r=>by simp only; rw [JX,To,h.ha]; omega,h.RX,FB h.u.set h.Ma r1 (Zb4 b) hpos,
   h.FK,fun p hp=>(Tn hp).elim (fun e=>e▸hx) fun ⟨q,h1,h2⟩=>h2▸h.FL q h1⟩
theorem Jm.start:Jm 0 ⟨[],[],[],[],[]⟩ :=
 ⟨Bd.nil,Bd.nil,Bd.nil,Bd.nil,Bd.nil,fun _=>rfl,fun _=>rfl,fun _=>rfl,fun p h=>(by cases h),fun p h=>(by cases h),fun p h=>(by cases h),fun p h=>(by cases h)⟩
def unM (σ : Kq) (u b:Bool) (x:List Vl) (t:Nat):Mn:=match t with
 | 0 => .nz
 | 1 => .set σ.T
 | 2 => .set σ.U
 | 3 => .set σ.P
 | 4 => .set σ.Q
 | 5 => .set σ.A
 | 6 => .set (Wj σ.A)
 | 7 => .set []
 | 8 => .row x
 | 9 => .set (ZV x (sd b) (σ.tab u))
 | 10 => .set (ZV (x.take 1) (sd b) (if u then σ.Q else σ.P))
 | 11 => .set (ZV (x.take 1) (sd b) σ.A)
 | 12 => .set (Wj (ZV (x.take 1) (sd b) σ.A))
 | 13 => .set [(x,sd b)]
 | 14 => .set [(x.take 1,sd b)]
 | 15 => .set (Wi [(x.take 1,sd b)] (ZV (x.take 1) (sd b) σ.A) (Wj σ.A))
 | 16 => .set (Xq σ.T)
 | 17 => .set (Xq σ.U)
 | _ => .none
open Ev in
theorem Zf0 {k:Nat} (hk:k≤63) {σ : Kq} (h:Jm k σ) {u:Bool} {x:List Vl} (hx:FJ u x) (hno:nf (σ.tab u) x=0):ZbY (unM σ u true x) (tbR u):=by
 obtain ⟨r1,r2,r3⟩:=hx.right
 refine ⟨rfl,?_,?_,?_,?_,?_,?_,?_,?_,?_,?_,?_,?_,?_⟩
 all_goals intro a
 ·intro _ _ h; cases h
 ·intro _ _ _ h; cases h
 ·intro _ h; cases h
 ·intro c hc
  simp only [tbR,List.mem_cons,List.not_mem_nil,or_false,Prod.mk.injEq] at hc
  rcases hc with ⟨rfl,rfl⟩ | ⟨rfl,rfl⟩
  ·exact ⟨σ.T,rfl,rfl,h.t.sm (by omega)⟩
  ·exact ⟨σ.U,rfl,rfl,h.u.sm (by omega)⟩
 ·intro hc
  simp only [tbR,List.mem_cons,List.not_mem_nil,or_false] at hc
  rcases hc with rfl | rfl <;> exact ⟨_,rfl⟩
 ·intro hc
  simp only [tbR,List.mem_cons,List.not_mem_nil,or_false] at hc
  rcases hc with rfl | rfl
  ·exact ⟨_,rfl,h.RX⟩
  ·exact ⟨_,rfl,h.Ma⟩
 ·intro h; cases h
 ·intro h; cases h
 ·intro ks hc
  simp only [tbR,List.mem_cons,List.not_mem_nil,or_false,Prod.mk.injEq] at hc
  obtain ⟨rfl,rfl⟩:=hc
  exact ⟨x,rfl,by rw [r3]; cases u <;> rfl⟩
 ·intro ks hc
  simp only [tbR,List.mem_cons,List.not_mem_nil,or_false,Prod.mk.injEq] at hc
  rcases hc with ⟨rfl,rfl⟩ | ⟨rfl,rfl⟩
  ·exact ⟨_,rfl,fun p hp=>(h.FK p hp).right.2.2⟩
  ·exact ⟨_,rfl,fun p hp=>(h.FL p hp).right.2.2⟩
 ·intro r b hc
  simp only [tbR,List.mem_cons,List.not_mem_nil,or_false,Prod.mk.injEq] at hc
  obtain ⟨rfl,rfl,rfl⟩:=hc
  cases u
  ·refine ⟨σ.T,x,rfl,rfl,?_,((h.t.sm (by omega)).net x).1,((h.t.sm (by omega)).net x).2⟩
   rw [KN h.t.set r1]
   have:nf σ.T x=0:=hno
   simp [this]
  ·refine ⟨σ.U,x,rfl,rfl,?_,((h.u.sm (by omega)).net x).1,((h.u.sm (by omega)).net x).2⟩
   rw [KN h.u.set r1]
   have:nf σ.U x=0:=hno
   simp [this]
 ·intro _ _ _ h; cases h
 ·intro _ h; cases h
open Ev in
theorem Zf1 {k:Nat} (hk:k≤62) {σ : Kq} (h:Jm k σ) {u b:Bool} {x:List Vl} (hx:FJ u x) (hb:b=false→1≤nf (σ.tab u) x):ZbY (unM σ u b x) (tbU u b):=by
 obtain ⟨r1,r2,r3⟩:=hx.right
 have hs:=ZeM b
 have hn:=Zb4 b
 have h2:=h.step hx hb
 have b13:Bd 1 [(x,sd b)]:=NI r1 hs
 have b14:Bd 1 [(x.take 1,sd b)]:=NI r2 hs
 have b15:Bd 1 (Wi [(x.take 1,sd b)] (ZV (x.take 1) (sd b) σ.A) (Wj σ.A)):=ZfT _ _ r2 hn
 have b11:Bd (k+1) (ZV (x.take 1) (sd b) σ.A):=h.a.ZV r2 hs
 have m13:Sm [(x,sd b)]:=b13.sm (by omega)
 have m14:Sm [(x.take 1,sd b)]:=b14.sm (by omega)
 have m7:Sm []:=Bd.nil.sm (by omega)
 have d13:∀ (S:Zs) r,nf [(x,sd b)] r=nf (ZV x (sd b) S) r+nf (Xq S) r:=fun S r=>by rw [VD,JX,Tl]; omega
 have d7:∀ (S:Zs) r,nf [] r=nf S r+nf (Xq S) r:=fun S r=>by rw [Tl]; show (0:Int)=_; omega
 have a13:∀ (S:Zs) r,nf (ZV x (sd b) S) r=nf S r+nf [(x,sd b)] r:=fun S r=>by rw [VD,JX]
 have a14:∀ (S:Zs) r,nf (ZV (x.take 1) (sd b) S) r=nf S r+nf [(x.take 1,sd b)] r:=fun S r=>by rw [VD,JX]
 have a7:∀ (S:Zs) r,nf S r=nf S r+nf [] r:=fun S r=>by show _=_+(0:Int); omega
 have p13:∀ r,nf [(x.take 1,sd b)] r=nf (prS [(x,sd b)]) r:=fun r=>rfl
 have k13:∀ p∈[(x,sd b)],p.1.map (·.k)=if u then [1,1] else [1,1,2]:=fun p hp=>by rw [List.mem_singleton.1 hp]; exact r3
 have w9:ZJ (Zz (ZV x (sd b) (σ.tab u)))≤k+1:=by
  cases u
  ·exact (h.t.ZV r1 hs).sum
  ·exact (h.u.ZV r1 hs).sum
 have s9:Sm (ZV x (sd b) (σ.tab u)):=by
  cases u
  ·exact (h.t.ZV r1 hs).sm (by omega)
  ·exact (h.u.ZV r1 hs).sm (by omega)
 have b10:Bd (k+1) (ZV (x.take 1) (sd b) (if u then σ.Q else σ.P)):=by
  cases u
  ·exact h.p.ZV r2 hs
  ·exact h.q.ZV r2 hs
 refine ⟨rfl,?_,?_,?_,?_,?_,?_,?_,?_,?_,?_,?_,?_,?_⟩
 all_goals intro a
 ·intro a2 c hc
  cases u
  ·have hc:(a,a2,c)∈[(9,16,13),(2,17,7),(1,13,9),(3,14,10),(4,7,4),(2,7,2),(14,7,14),(5,14,11),(6,15,12)]:=hc
   simp only [List.mem_cons,List.not_mem_nil,or_false,Prod.mk.injEq] at hc
   rcases hc with ⟨rfl,rfl,rfl⟩ | ⟨rfl,rfl,rfl⟩ | ⟨rfl,rfl,rfl⟩ | ⟨rfl,rfl,rfl⟩ | ⟨rfl,rfl,rfl⟩ | ⟨rfl,rfl,rfl⟩ | ⟨rfl,rfl,rfl⟩ | ⟨rfl,rfl,rfl⟩ | ⟨rfl,rfl,rfl⟩
   ·exact ⟨_,_,_,rfl,rfl,rfl,m13,d13 σ.T⟩
   ·exact ⟨_,_,_,rfl,rfl,rfl,m7,d7 σ.U⟩
   ·exact ⟨_,_,_,rfl,rfl,rfl,s9,a13 σ.T⟩
   ·exact ⟨_,_,_,rfl,rfl,rfl,b10.sm (by omega),a14 σ.P⟩
   ·exact ⟨_,_,_,rfl,rfl,rfl,h.q.sm (by omega),a7 σ.Q⟩
   ·exact ⟨_,_,_,rfl,rfl,rfl,h.u.sm (by omega),a7 σ.U⟩
   ·exact ⟨_,_,_,rfl,rfl,rfl,m14,a7 _⟩
   ·exact ⟨_,_,_,rfl,rfl,rfl,b11.sm (by omega),a14 σ.A⟩
   ·exact ⟨_,_,_,rfl,rfl,rfl,b11.one.sm (by omega),Bw h.a.set r2 hn⟩
  ·have hc:(a,a2,c)∈[(9,17,13),(1,16,7),(2,13,9),(4,14,10),(3,7,3),(1,7,1),(7,14,14),(5,14,11),(6,15,12)]:=hc
   simp only [List.mem_cons,List.not_mem_nil,or_false,Prod.mk.injEq] at hc
   rcases hc with ⟨rfl,rfl,rfl⟩ | ⟨rfl,rfl,rfl⟩ | ⟨rfl,rfl,rfl⟩ | ⟨rfl,rfl,rfl⟩ | ⟨rfl,rfl,rfl⟩ | ⟨rfl,rfl,rfl⟩ | ⟨rfl,rfl,rfl⟩ | ⟨rfl,rfl,rfl⟩ | ⟨rfl,rfl,rfl⟩
   ·exact ⟨_,_,_,rfl,rfl,rfl,m13,d13 σ.U⟩
   ·exact ⟨_,_,_,rfl,rfl,rfl,m7,d7 σ.T⟩
   ·exact ⟨_,_,_,rfl,rfl,rfl,s9,a13 σ.U⟩
   ·exact ⟨_,_,_,rfl,rfl,rfl,b10.sm (by omega),a14 σ.Q⟩
   ·exact ⟨_,_,_,rfl,rfl,rfl,h.p.sm (by omega),a7 σ.P⟩
   ·exact ⟨_,_,_,rfl,rfl,rfl,h.t.sm (by omega),a7 σ.T⟩
   ·exact ⟨_,_,_,rfl,rfl,rfl,m14,fun r=>by show _=(0:Int)+_; omega⟩
   ·exact ⟨_,_,_,rfl,rfl,rfl,b11.sm (by omega),a14 σ.A⟩
   ·exact ⟨_,_,_,rfl,rfl,rfl,b11.one.sm (by omega),Bw h.a.set r2 hn⟩
 ·intro r b' c hc
  have hc:(a,r,b',c)∈[(sel u 2 1,8,b,9)]:=hc
  simp only [List.mem_cons,List.not_mem_nil,or_false,Prod.mk.injEq] at hc
  obtain ⟨rfl,rfl,rfl,rfl⟩:=hc
  refine ⟨σ.tab u,x,_,by cases u <;> rfl,rfl,rfl,s9,fun r => ?_⟩
  rw [JX]
  rfl
 ·intro c hc
  have hc:(a,c)∈[(1,16),(2,17)]:=hc
  simp only [List.mem_cons,List.not_mem_nil,or_false,Prod.mk.injEq] at hc
  rcases hc with ⟨rfl,rfl⟩ | ⟨rfl,rfl⟩
  ·exact ⟨_,_,rfl,rfl,h.t.sm (by omega),(h.t.sm (by omega)).flip,Tl _⟩
  ·exact ⟨_,_,rfl,rfl,h.u.sm (by omega),(h.u.sm (by omega)).flip,Tl _⟩
 ·intro c hc
  have hc:(a,c)∈[(1,1),(2,2),(15,15),(14,14)]:=hc
  simp only [List.mem_cons,List.not_mem_nil,or_false,Prod.mk.injEq] at hc
  rcases hc with ⟨rfl,rfl⟩ | ⟨rfl,rfl⟩ | ⟨rfl,rfl⟩ | ⟨rfl,rfl⟩
  ·exact ⟨_,rfl,rfl,h.t.sm (by omega)⟩
  ·exact ⟨_,rfl,rfl,h.u.sm (by omega)⟩
  ·exact ⟨_,rfl,rfl,b15.sm (by omega)⟩
  ·exact ⟨_,rfl,rfl,m14⟩
 ·intro hc
  have hc:a∈[1,2,9,13,7]:=hc
  simp only [List.mem_cons,List.not_mem_nil,or_false] at hc
  rcases hc with rfl | rfl | rfl | rfl | rfl <;> exact ⟨_,rfl⟩
 ·intro hc
  have hc:a∈[1,2,9]:=hc
  simp only [List.mem_cons,List.not_mem_nil,or_false] at hc
  rcases hc with rfl | rfl | rfl
  ·exact ⟨_,rfl,h.RX⟩
  ·exact ⟨_,rfl,h.Ma⟩
  ·refine ⟨_,rfl,?_⟩
   cases u
   ·exact h2.RX
   ·exact h2.Ma
 ·intro hc
  have hc:a∈[1,2,3,4,9,10,11,12]:=hc
  simp only [List.mem_cons,List.not_mem_nil,or_false] at hc
  rcases hc with rfl | rfl | rfl | rfl | rfl | rfl | rfl | rfl
  ·exact ⟨_,rfl,by have:=h.t.sum; omega⟩
  ·exact ⟨_,rfl,by have:=h.u.sum; omega⟩
  ·exact ⟨_,rfl,by have:=h.p.sum; omega⟩
  ·exact ⟨_,rfl,by have:=h.q.sum; omega⟩
  ·exact ⟨_,rfl,by omega⟩
  ·exact ⟨_,rfl,by have:=b10.sum; omega⟩
  ·exact ⟨_,rfl,by have:=b11.sum; omega⟩
  ·exact ⟨_,rfl,by have:=b11.one.sum; omega⟩
 ·intro hc
  have hc:a∈[1,2]:=hc
  simp only [List.mem_cons,List.not_mem_nil,or_false] at hc
  rcases hc with rfl | rfl
  ·exact ⟨_,rfl,by have:=h.t.sum; omega⟩
  ·exact ⟨_,rfl,by have:=h.u.sum; omega⟩
 ·intro ks hc
  have hc:(a,ks)∈[(8,sel u [1,1] [1,1,2])]:=hc
  simp only [List.mem_cons,List.not_mem_nil,or_false,Prod.mk.injEq] at hc
  obtain ⟨rfl,rfl⟩:=hc
  exact ⟨x,rfl,by rw [r3]; cases u <;> rfl⟩
 ·intro ks hc
  have hc:(a,ks)∈[(1,[1,1,2]),(2,[1,1]),(13,sel u [1,1] [1,1,2]),(7,sel u [1,1,2] [1,1])]:=hc
  simp only [List.mem_cons,List.not_mem_nil,or_false,Prod.mk.injEq] at hc
  rcases hc with ⟨rfl,rfl⟩ | ⟨rfl,rfl⟩ | ⟨rfl,rfl⟩ | ⟨rfl,rfl⟩
  ·exact ⟨_,rfl,fun p hp=>(h.FK p hp).right.2.2⟩
  ·exact ⟨_,rfl,fun p hp=>(h.FL p hp).right.2.2⟩
  ·exact ⟨_,rfl,fun p hp=>by rw [k13 p hp]; cases u <;> rfl⟩
  ·exact ⟨[],rfl,fun p hp=>by cases hp⟩
 ·intro r b' hc
  cases b
  ·have hc:(a,r,b')∈[(sel u 2 1,8,true)]:=hc
   simp only [List.mem_cons,List.not_mem_nil,or_false,Prod.mk.injEq] at hc
   obtain ⟨rfl,rfl,rfl⟩:=hc
   have h1:=hb rfl
   cases u
   ·refine ⟨σ.T,x,rfl,rfl,?_,((h.t.sm (by omega)).net x).1,((h.t.sm (by omega)).net x).2⟩
    rw [KN h.t.set r1]
    have h1:1≤nf σ.T x:=h1
    simp; omega
   ·refine ⟨σ.U,x,rfl,rfl,?_,((h.u.sm (by omega)).net x).1,((h.u.sm (by omega)).net x).2⟩
    rw [KN h.u.set r1]
    have h1:1≤nf σ.U x:=h1
    simp; omega
  ·have hc:(a,r,b')∈([]:List (Nat×Nat×Bool)):=hc
   cases hc
 ·intro n hh c hc
  have hc:(a,n,hh,c)∈[(14,11,6,15)]:=hc
  simp only [List.mem_cons,List.not_mem_nil,or_false,Prod.mk.injEq] at hc
  obtain ⟨rfl,rfl,rfl,rfl⟩:=hc
  exact ⟨_,_,_,_,rfl,rfl,rfl,rfl,b15.sm (by omega),fun r=>rfl⟩
 ·intro c hc
  have hc:(a,c)∈[(13,14),(7,7)]:=hc
  simp only [List.mem_cons,List.not_mem_nil,or_false,Prod.mk.injEq] at hc
  rcases hc with ⟨rfl,rfl⟩ | ⟨rfl,rfl⟩
  ·exact ⟨_,_,rfl,rfl,m14,p13⟩
  ·exact ⟨[],[],rfl,rfl,m7,fun r=>rfl⟩
end Go.Proofs.YtheflbaejhlboaaGreatDoor
namespace Go.Proofs.YtheflbaejhlboaaGreatDoor.Ev
open Go Go.Proofs
set_option maxRecDepth 1000000
theorem ZdB:Bool.and (NO pU0) (Z3 Tryz.prog B0 M0 1000000 200 pU0)=true:=by decide +kernel
theorem ZdC:Bool.and (NO pU1) (Z3 Tryz.prog B0 M0 1000000 200 pU1)=true:=by decide +kernel
end Go.Proofs.YtheflbaejhlboaaGreatDoor.Ev
namespace Go.Proofs.YtheflbaejhlboaaGreatDoor.Ev
open Go Go.Proofs
theorem ZeN [Sig]:∀ x∈RL,Z4 Tryz.prog x.1 x.2:=by
 intro x hx
 simp only [RL,List.mem_cons,List.not_mem_nil,or_false] at hx
 subst hx
 refine Zb1 fun e he => ?_
 simp only [List.mem_cons,List.not_mem_nil,or_false] at he
 rcases he with rfl | rfl
 ·have h:=ZdB
  rw [Bool.and_eq_true] at h
  exact ⟨rfl,h.1,Qb ZbC (fun _ _=>rfl) Qn h.2⟩
 ·have h:=ZdC
  rw [Bool.and_eq_true] at h
  exact ⟨rfl,h.1,Qb ZbC (fun _ _=>rfl) Qn h.2⟩
theorem Zf2 [Sig]:J9 Tryz.prog BRd:=Tj fun x hx=>by
 rcases List.mem_append.1 hx with h | h
 ·exact Fs x h
 ·exact ZeN x h
theorem Zb5 [Sig] {M:Nat→Mn} (hM:Sig.Q6=Qx M) {t:Tb} (ok:ZbY M t):J9 Tryz.prog (BG t):=Tj fun x hx=>by
 rcases List.mem_append.1 hx with h | h
 ·exact Fs x h
 ·rcases List.mem_append.1 h with h | h
  ·exact ZeN x h
  ·exact Zh1 hM ok x h
def M0s (t:Nat):Mn:=match t with
 | 0 => .nz
 | _ => .none
noncomputable abbrev S0:Sig:=Zb3 M0s rfl 0 0 (by decide) (by decide)
section
variable {S:Sig} {r:Rho} {a:Zc} {u:Value} {l:List Zc} {m:List Value}
theorem vn:@VRs S r [] []:=@VRs.nil S r
theorem vc (h:@VR S r a u) (t:@VRs S r l m):@VRs S r (a::l) (u::m):=@VRs.cons S r _ _ _ _ h t
theorem vi {k:IntKind} {n:Int}:@VR S r (.int k n) (.int k n):=@VR.int S r k n
theorem vs {l:List UInt8}:@VR S r (.str l) (.string ⟨⟨l⟩⟩):=@VR.str S r l
theorem vb {b:Bool}:@VR S r (.bool b) (.bool b):=@VR.bool S r b
theorem vh (h:@VRs S r (a::l) (u::m)):@VR S r a u:=((@KO S _ _ _ _ _).1 h).1
theorem vt (h:@VRs S r (a::l) (u::m)):@VRs S r l m:=((@KO S _ _ _ _ _).1 h).2
end
section
variable {S:Sig} {s:St} {T:Nat→Prop} {w:World} {L:List Zc} {U:List Value} {u:Value}
theorem Kn.ptr {i o:Nat} (h:Kn S s T w (.ptr i o::L) (u::U)):∃ b,u = .pointer (some ⟨b,o,none⟩):=by
 obtain ⟨r,_,hv,_⟩:=h
 obtain ⟨hx,_⟩:=(@KO S _ _ _ _ _).1 hv
 clear hv
 cases hx
 exact ⟨_,rfl⟩
theorem Kn.rep {a b:Int} (h:Kn S s T w (.agg [.int .i64 a,.int .i64 b,.str []]::L) (u::U)):u = .agg #[.int .i64 a,.int .i64 b,.string ⟨#[]⟩]:=by
 obtain ⟨r,_,hv,_⟩:=h
 obtain ⟨hx,_⟩:=(@KO S _ _ _ _ _).1 hv
 clear hv
 cases hx with
 | agg h=>cases h with
  | cons h1 h=>cases h with
   | cons h2 h=>cases h with
    | cons h3 h=>cases h; cases h1; cases h2; cases h3; rfl
theorem Kn.entry {a b c:Int} {n t:List UInt8} {i m:Nat} (h:Kn S s T w (.agg [.int .i64 a,.int .i64 b,.int .i64 c,.str n,.str t,.slice i 0 m none,.Za]::L) (u::U)) :
  ∃ A cap,u = .agg #[.int .i64 a,.int .i64 b,.int .i64 c,.string ⟨⟨n⟩⟩,.string ⟨⟨t⟩⟩,.slice A m cap,.slice none 0 0]:=by
 obtain ⟨r,_,hv,_⟩:=h
 obtain ⟨hx,_⟩:=(@KO S _ _ _ _ _).1 hv
 clear hv
 cases hx with
 | agg h=>cases h with
  | cons h1 h=>cases h with
   | cons h2 h=>cases h with
    | cons h3 h=>cases h with
     | cons h4 h=>cases h with
      | cons h5 h=>cases h with
       | cons h6 h=>cases h with
        | cons h7 h=>cases h; cases h1; cases h2; cases h3; cases h4; cases h5; cases h6; cases h7; exact ⟨_,_,rfl⟩
theorem Kn.Hl {a b c:Int} {n t:List UInt8} (h:Kn S s T w (.agg [.int .i64 a,.int .i64 b,.int .i64 c,.str n,.str t,.Za,.Za]::L) (u::U)) :
  u = .agg #[.int .i64 a,.int .i64 b,.int .i64 c,.string ⟨⟨n⟩⟩,.string ⟨⟨t⟩⟩,.slice none 0 0,.slice none 0 0]:=by
 obtain ⟨r,_,hv,_⟩:=h
 obtain ⟨hx,_⟩:=(@KO S _ _ _ _ _).1 hv
 clear hv
 cases hx with
 | agg h=>cases h with
  | cons h1 h=>cases h with
   | cons h2 h=>cases h with
    | cons h3 h=>cases h with
     | cons h4 h=>cases h with
      | cons h5 h=>cases h with
       | cons h6 h=>cases h with
        | cons h7 h=>cases h; cases h1; cases h2; cases h3; cases h4; cases h5; cases h6; cases h7; rfl
end
end Go.Proofs.YtheflbaejhlboaaGreatDoor.Ev
namespace Go.Proofs.YtheflbaejhlboaaGreatDoor.Ev
open Go Go.Proofs
set_option maxRecDepth 1000000
theorem Zb6:Zh4 cR0=true:=by decide +kernel
end Go.Proofs.YtheflbaejhlboaaGreatDoor.Ev
namespace Go.Proofs.YtheflbaejhlboaaGreatDoor.Ev
open Go Go.Proofs
theorem Cg [Sig] {cR:Zu} (h:Zh4 cR=true):∃ s1 ct s2 s3 cu s4 s5 s6 s7 b1 s8 s9 b2 s10 s11,
  cR 9 [] ⟨.lf,0⟩ = .ok (.ptr 3 0) s1∧cR 25 [] s1 = .ok ct s2∧cR 12 [.str [116],ct] s2 = .ok eT1 s3 ∧
  cR 13 [] s3 = .ok cu s4∧cR 12 [.str [117],cu] s4 = .ok eT2 s5∧cR 14 [Zdz,tx3] s5 = .ok eT3 s6∧cR 14 [ZdA,tx4] s6 = .ok eT4 s7 ∧
  cR 11 [eT1,vI 0,vI 1] s7 = .ok b1 s8∧cR 10 [.ptr 3 0,b1] s8 = .ok P9 s9∧cR 11 [eT2,vI 0,vI 2] s9 = .ok b2 s10∧cR 10 [.ptr 3 0,b2] s10 = .ok P9 s11∧Wl V2 (.ptr 3 0) s11=true:=by
 obtain ⟨g,s1,k1,h⟩:=Z1 h
 obtain ⟨e1,h⟩:=QJ h
 have e1:=Qj _ _ e1
 subst e1
 obtain ⟨ct,s2,k2,h⟩:=Z1 h
 obtain ⟨g,s3,k3,h⟩:=Z1 h
 obtain ⟨e1,h⟩:=QJ h
 have e1:=Qj _ _ e1
 subst e1
 obtain ⟨cu,s4,k4,h⟩:=Z1 h
 obtain ⟨g,s5,k5,h⟩:=Z1 h
 obtain ⟨e1,h⟩:=QJ h
 have e1:=Qj _ _ e1
 subst e1
 obtain ⟨g,s6,k6,h⟩:=Z1 h
 obtain ⟨e1,h⟩:=QJ h
 have e1:=Qj _ _ e1
 subst e1
 obtain ⟨g,s7,k7,h⟩:=Z1 h
 obtain ⟨e1,h⟩:=QJ h
 have e1:=Qj _ _ e1
 subst e1
 obtain ⟨b1,s8,k8,h⟩:=Z1 h
 obtain ⟨g,s9,k9,h⟩:=Z1 h
 obtain ⟨e1,h⟩:=QJ h
 have e1:=Qj _ _ e1
 subst e1
 obtain ⟨b2,s10,k10,h⟩:=Z1 h
 obtain ⟨g,s11,k11,h⟩:=Z1 h
 obtain ⟨e1,h⟩:=QJ h
 have e1:=Qj _ _ e1
 subst e1
 exact ⟨s1,ct,s2,s3,cu,s4,s5,s6,s7,b1,s8,s9,b2,s10,s11,k1,k2,k3,k4,k5,k6,k7,k8,k9,k10,k11,h⟩
theorem Mb [Sig] {cR:Zu} {V V':Vd} {e:Zc} {k:Nat} (h:preB cR V V' e k=true):∃ b s1 s2,cR 11 [e,vI 0,vI k] V.S = .ok b s1∧cR 10 [.ptr 0 0,b] s1 = .ok P9 s2∧Wl V' (.ptr 0 0) s2=true:=by
 obtain ⟨b,s1,k1,h⟩:=Z1 h
 obtain ⟨g,s2,k2,h⟩:=Z1 h
 obtain ⟨e1,h⟩:=QJ h
 have e1:=Qj _ _ e1
 subst e1
 exact ⟨b,s1,s2,k1,k2,h⟩
theorem UZ [Sig] {cG:Zu} {V:Vd} {u b:Bool} {rep:Zc} (h:Kp cG V u b rep=true):∃ e s1 y s2 s3,cG 16 [.slice 104 0 1 none] (stU u b) = .ok e s1 ∧
  cG 11 [e,vI 1,.sint .i64 (.ofNat 1) (.ofNat 1) (.ofNat 0)] s1 = .ok y s2∧cG 10 [.ptr 0 0,y] s2 = .ok rep s3∧Wl V (.ptr 0 0) s3=true:=by
 obtain ⟨e,s1,k1,h⟩:=Z1 h
 obtain ⟨y,s2,k2,h⟩:=Z1 h
 obtain ⟨g,s3,k3,h⟩:=Z1 h
 obtain ⟨e1,hv⟩:=QJ h
 rw [Qj _ _ e1] at k3
 exact ⟨e,s1,y,s2,s3,k1,k2,k3,hv⟩
theorem Tq {v:Zc} {t:Nat} (h:isSet v t=true):∃ i,v = .tuple [.gho i t,.bool true]:=by
 unfold isSet at h
 split at h
 ·exact ⟨_,by rw [Nat.eq_of_beq_eq_true h]⟩
 ·cases h
theorem FM {cG:Zu} (h:ZeL cG=true):∃ i1 s1 i2 s2 i3 s3 i4 s4,cG 29 [.ptr 0 0,.str [116]] VA.S = .ok (.tuple [.gho i1 1,.bool true]) s1∧cG 29 [.ptr 0 0,.str [117]] s1 = .ok (.tuple [.gho i2 2,.bool true]) s2 ∧
  cG 19 [.ptr 0 0,Zdz] s2 = .ok (.tuple [.gho i3 5,.bool true]) s3∧cG 19 [.ptr 0 0,ZdA] s3 = .ok (.tuple [.gho i4 6,.bool true]) s4:=by
 obtain ⟨g,s1,k1,h⟩:=Z1 h
 obtain ⟨e1,h⟩:=QJ h
 obtain ⟨i1,rfl⟩:=Tq e1
 obtain ⟨g,s2,k2,h⟩:=Z1 h
 obtain ⟨e1,h⟩:=QJ h
 obtain ⟨i2,rfl⟩:=Tq e1
 obtain ⟨g,s3,k3,h⟩:=Z1 h
 obtain ⟨e1,h⟩:=QJ h
 obtain ⟨i3,rfl⟩:=Tq e1
 obtain ⟨g,s4,k4,h⟩:=Z1 h
 obtain ⟨i4,rfl⟩:=Tq h
 exact ⟨i1,s1,i2,s2,i3,s3,i4,s4,k1,k2,k3,k4⟩
end Go.Proofs.YtheflbaejhlboaaGreatDoor.Ev
namespace Go.Proofs.YtheflbaejhlboaaGreatDoor.Ev
open Go Go.Proofs
set_option maxRecDepth 1000000
theorem Zb7:preB cR0 V2 V3 eT3 3=true:=by decide +kernel
end Go.Proofs.YtheflbaejhlboaaGreatDoor.Ev
namespace Go.Proofs.YtheflbaejhlboaaGreatDoor.Ev
open Go Go.Proofs
set_option maxRecDepth 1000000
theorem Zb8:preB cR0 V3 V4 eT4 4=true:=by decide +kernel
end Go.Proofs.YtheflbaejhlboaaGreatDoor.Ev
namespace Go.Proofs.YtheflbaejhlboaaGreatDoor
open Go.RowKit
theorem Zf3 (s:ByteArray):s=str s.data.toList:=by cases s; rfl
set_option maxHeartbeats 4000000 in
theorem NP (n:Int) (w:World):Calls Tryz.prog 27 #[.int .i64 n] w fun e w'=>e = .returned (.agg #[.int .i64 1,.int .i64 n,.string ⟨#[]⟩])∧Chg (fun _=>False) w w':=by
 go_enter Tryz.func27,Tryz.ntmps27
 go_wp2_with fail
 refine bodyPost_ret (v := .agg #[.int .i64 1,.int .i64 n,.string ⟨#[]⟩]) ?_ rfl ?_
 ·simp only [results,show Tryz.f27.results = #[.cell 2 55] from rfl]
  go_simp
 ·exact ⟨rfl,(Chg.refl _ w).alloc _⟩
set_option maxHeartbeats 4000000 in
theorem U0 (s:ByteArray) (w:World):Calls Tryz.prog 28 #[.string s] w fun e w'=>e = .returned (.agg #[.int .i64 2,.int .i64 0,.string s])∧Chg (fun _=>False) w w':=by
 go_enter Tryz.func28,Tryz.ntmps28
 go_wp2_with fail
 refine bodyPost_ret (v := .agg #[.int .i64 2,.int .i64 0,.string s]) ?_ rfl ?_
 ·simp only [results,show Tryz.f28.results = #[.cell 2 55] from rfl]
  go_simp
 ·exact ⟨rfl,(Chg.refl _ w).alloc _⟩
def Zb9 (w:World) (par:Bool) (rem:Bool) (e:Ending) (w':World):Prop :=
 ∃ (rb len:Nat) (row:List Vl),e = .returned (.agg #[.string (if par then ⟨#[117]⟩ else ⟨#[116]⟩),.slice (some ⟨rb,0,none⟩) len len,.bool rem])∧w.heap.size≤rb∧Zq (fun b=>b=rb) w' (.slice (some ⟨rb,0,none⟩) len len) row∧FJ par row∧Chg (fun _=>False) w w'
theorem Zh5 (n:Int) : -3≤n.tmod 4∧n.tmod 4≤3:=by
 have b1 : -4<n.tmod 4:=Int.lt_tmod_of_pos n (by omega)
 have b2:n.tmod 4<4:=Int.tmod_lt_of_pos n (by omega)
 omega
theorem ZdD {w:World} {rb:Nat} {n m:Int} {s:ByteArray} (h:w.heap[rb]? = some (.cells #[.int .i64 1,.int .i64 n,.string ⟨#[]⟩,.int .i64 1,.int .i64 m,.string ⟨#[]⟩,.int .i64 2,.int .i64 0,.string s] 55 (0,0))) (hs:s.size≤2) :
  Zq (fun b=>b=rb) w (.slice (some ⟨rb,0,none⟩) 3 3) [⟨1,n,[]⟩,⟨1,m,[]⟩,⟨2,0,s.data.toList⟩]:=by
 have hlt:rb<w.heap.size:=lt_of_block h
 have hl:s.data.toList.length≤2:=by rw [Array.length_toList]; exact hs
 refine ⟨_,_,rfl,by simp,by decide,fun _=>⟨rb,0,rfl,rfl,hlt,fun j x hj => ?_⟩⟩
 have c:=fun i=>cell_of_row w rb i _ _ _ h
 match j,hj with
 | 0,hj=>cases hj; exact ⟨by rw [c]; rfl,by rw [c]; rfl,by rw [c]; rfl,by simp⟩
 | 1,hj=>cases hj; exact ⟨by rw [c]; rfl,by rw [c]; rfl,by rw [c]; rfl,by simp⟩
 | 2,hj=>cases hj; exact ⟨by rw [c]; rfl,by rw [c]; rfl,by rw [c]; simp [← Zf3],by simp only; omega⟩
 | j+3,hj=>simp at hj
theorem ZdE {w:World} {rb:Nat} {n m:Int} (h:w.heap[rb]? = some (.cells #[.int .i64 1,.int .i64 n,.string ⟨#[]⟩,.int .i64 1,.int .i64 m,.string ⟨#[]⟩] 55 (0,0))) :
  Zq (fun b=>b=rb) w (.slice (some ⟨rb,0,none⟩) 2 2) [⟨1,n,[]⟩,⟨1,m,[]⟩]:=by
 have hlt:rb<w.heap.size:=lt_of_block h
 refine ⟨_,_,rfl,by simp,by decide,fun _=>⟨rb,0,rfl,rfl,hlt,fun j x hj => ?_⟩⟩
 have c:=fun i=>cell_of_row w rb i _ _ _ h
 match j,hj with
 | 0,hj=>cases hj; exact ⟨by rw [c]; rfl,by rw [c]; rfl,by rw [c]; rfl,by simp⟩
 | 1,hj=>cases hj; exact ⟨by rw [c]; rfl,by rw [c]; rfl,by rw [c]; rfl,by simp⟩
 | j+2,hj=>simp at hj
theorem JE {w w1:World} {o p:Obj} (h:Chg (fun _=>False) ((w.alloc o).alloc p) w1):w.heap.size+2≤w1.heap.size:=by
 have h1:=h.size
 have e1:∀ (W:World) (o:Obj),(W.alloc o).heap.size=W.heap.size+1:=fun W o=>Array.size_push _
 rw [e1,e1] at h1
 exact h1
theorem Qo {w:World} {B:Nat} {x y z:Value} {t:TypeId} (h:w.heap[B]? = some (.cells #[x,y,z] t (0,0))) :
  (∀ o,(w.alloc o).cell? ⟨B,0,none⟩=some x)∧(∀ o,(w.alloc o).cell? ⟨B,1,none⟩=some y)∧(∀ o,(w.alloc o).cell? ⟨B,2,none⟩=some z)∧(∀ o,(w.alloc o).frozen? ⟨B,0,none⟩=false)∧(∀ o,(w.alloc o).frozen? ⟨B,1,none⟩=false)∧(∀ o,(w.alloc o).frozen? ⟨B,2,none⟩=false):=by
 have h2:∀ o,(w.alloc o).heap[B]? = some (.cells #[x,y,z] t (0,0)):=fun o=>((Chg.refl (fun _=>False) w).alloc o).heap h fun h=>h
 exact ⟨fun o=>(QQ (h2 o)).1,fun o=>(QQ (h2 o)).2.1,fun o=>(QQ (h2 o)).2.2,fun o=>frozen_of_row _ B 0 _ _ (h2 o),fun o=>frozen_of_row _ B 1 _ _ (h2 o),fun o=>frozen_of_row _ B 2 _ _ (h2 o)⟩
theorem Zca (s:ByteArray):(s.extract 0 2).size≤2:=by rw [ByteArray.size_extract]; omega
theorem T0 {w w2:World} {n m:Int} {s:ByteArray} {A:Value} {rem:Bool} {x y z:Value} (c:Chg (fun _=>False) w w2) (hsz:w.heap.size+2≤w2.heap.size) (hs:s.size≤2) (hn : -3≤n∧n≤3) :
  Zb9 w false rem (.returned (.agg #[.string ⟨#[116]⟩,.slice (some ⟨w2.heap.size,0,none⟩) 3 3,.bool rem]))
   (((((w2.alloc (.cells #[.int .i64 1,.int .i64 n,.string ⟨#[]⟩,.int .i64 1,.int .i64 m,.string ⟨#[]⟩,.int .i64 2,.int .i64 0,.string s] 55)).setCell ⟨w.heap.size,1,none⟩ A).setCell ⟨w.heap.size+1,0,none⟩ x).setCell ⟨w.heap.size+1,1,none⟩ y).setCell ⟨w.heap.size+1,2,none⟩ z):=by
 have h2:Chg (fun k=>k=w.heap.size∨k=w.heap.size+1) (w2.alloc (.cells #[.int .i64 1,.int .i64 n,.string ⟨#[]⟩,.int .i64 1,.int .i64 m,.string ⟨#[]⟩,.int .i64 2,.int .i64 0,.string s] 55)) _ :=
  Chg.Jc (Chg.Jc (Chg.Jc (Chg.Jc (Chg.refl _ _) (D:=w.heap.size) (.inl rfl) 1 A) (D:=w.heap.size+1) (.inr rfl) 0 x) (D:=w.heap.size+1) (.inr rfl) 1 y) (D:=w.heap.size+1) (.inr rfl) 2 z
 refine ⟨w2.heap.size,3,_,rfl,by omega,ZdD (h2.heap (heap_alloc_new w2 _) (by omega)) hs,⟨n,m,_,rfl,hn.1,hn.2,by rw [Array.length_toList]; exact hs⟩,(c.alloc _).trans h2 fun i hi e=>by omega⟩
theorem T2 {w w2:World} {n m:Int} {A:Value} {rem:Bool} {x y z:Value} (c:Chg (fun _=>False) w w2) (hsz:w.heap.size+2≤w2.heap.size) (hn : -3≤n∧n≤3) :
  Zb9 w true rem (.returned (.agg #[.string ⟨#[117]⟩,.slice (some ⟨w2.heap.size,0,none⟩) 2 2,.bool rem]))
   (((((w2.alloc (.cells #[.int .i64 1,.int .i64 n,.string ⟨#[]⟩,.int .i64 1,.int .i64 m,.string ⟨#[]⟩] 55)).setCell ⟨w.heap.size,1,none⟩ A).setCell ⟨w.heap.size+1,0,none⟩ x).setCell ⟨w.heap.size+1,1,none⟩ y).setCell ⟨w.heap.size+1,2,none⟩ z):=by
 have h2:Chg (fun k=>k=w.heap.size∨k=w.heap.size+1) (w2.alloc (.cells #[.int .i64 1,.int .i64 n,.string ⟨#[]⟩,.int .i64 1,.int .i64 m,.string ⟨#[]⟩] 55)) _ :=
  Chg.Jc (Chg.Jc (Chg.Jc (Chg.Jc (Chg.refl _ _) (D:=w.heap.size) (.inl rfl) 1 A) (D:=w.heap.size+1) (.inr rfl) 0 x) (D:=w.heap.size+1) (.inr rfl) 1 y) (D:=w.heap.size+1) (.inr rfl) 2 z
 refine ⟨w2.heap.size,2,_,rfl,by omega,ZdE (h2.heap (heap_alloc_new w2 _) (by omega)),⟨n,m,rfl,hn.1,hn.2⟩,(c.alloc _).trans h2 fun i hi e=>by omega⟩
set_option maxHeartbeats 8000000 in
set_option maxRecDepth 100000 in
theorem Ch {F:Nat→Prop} {w:World} {tab:ByteArray} {rv:Value} {r:List Vl} {rem:Bool} (h:Zq F w rv r) :
  Calls Tryz.prog 24 #[.agg #[.string tab,rv,.bool rem]] w (Zb9 w (!decide (tab.size%2=0)) rem):=by
 have hNum:=NP
 have hStr:=U0
 obtain ⟨A,cap,rfl,hn,hcap,hat⟩:=h
 have t1:=Zh5
 have t0:(0:Int)≤3:=by decide
 obtain ⟨par,hpar⟩:∃ b,decide (tab.size%2=0)=b:=⟨_,rfl⟩
 rw [hpar]
 have hp2:(((tab.size:Int)%2)==0)=par:=by
  rw [← hpar]
  by_cases e:tab.size%2=0
  ·rw [decide_eq_true e,beq_iff_eq]; omega
  ·rw [decide_eq_false e,beq_eq_false_iff_ne]; omega
 clear hpar
 have HE:=Lib.hid Zca
 by_cases h0:0<r.length
 ·obtain ⟨b,off,rfl,_,hb,hx⟩:=hat h0
  obtain ⟨x,hx0⟩:∃ x,r[0]? = some x:=⟨_,List.getElem?_eq_getElem h0⟩
  obtain ⟨a0,a1,a2,al⟩:=hx 0 x hx0
  simp only [Nat.zero_mul,Nat.add_zero] at a0 a1 a2
  by_cases h1:1<r.length
  ·obtain ⟨y,hy0⟩:∃ y,r[1]? = some y:=⟨_,List.getElem?_eq_getElem h1⟩
   obtain ⟨b0,b1,b2,bl⟩:=hx 1 y hy0
   simp only [Nat.one_mul] at b0 b1 b2
   clear hat hx hx0 hy0
   obtain ⟨L,hL⟩:∃ L,r.length=L:=⟨_,rfl⟩
   rw [hL] at h0 h1 ⊢
   clear hL
   have l0:(0:Int)<(L:Int):=by omega
   have l1:(1:Int)<(L:Int):=by omega
   cases par
   ·go_enter Tryz.func24,Tryz.ntmps24
    go_wp2_with fail
    all_goals
     refine (hNum _ _).mono ?_
     rintro _ w1 ⟨rfl,c1⟩
     have cc:=(((Chg.refl (fun _=>False) w).alloc _).alloc _).trans c1 fun _ _ h=>h
     have hs2:=JE c1
     have hz:=c1.size
     obtain ⟨p0,p1⟩:=Qd c1
     go_wp2_with fail
     refine (hNum _ _).mono ?_
     rintro _ w2 ⟨rfl,c2⟩
     have p0:=c2.heap p0 fun h=>h
     have p1:=c2.heap p1 fun h=>h
     have cc:=cc.trans c2 fun _ _ h=>h
     have hz2:=c2.size
     have hsz:w.heap.size+2≤w2.heap.size:=by have:=hs2; omega
     obtain ⟨q0,q1,q2,z0,z1,z2⟩:=Qo p0
     obtain ⟨r0,r1,r2,y0,y1,y2⟩:=Qo p1
     clear p0 p1 c1 c2 hz hz2
     go_wp2_with fail
     refine bodyPost_ret (v := .agg #[.string ⟨#[117]⟩,.slice (some ⟨w2.heap.size,0,none⟩) 2 2,.bool rem]) ?_ rfl ?_
     ·simp only [results,show Tryz.f24.results = #[.cell 2 41] from rfl]
      go_simp
     ·exact T2 cc hsz (by first | exact t1 _ | decide)
   ·go_enter Tryz.func24,Tryz.ntmps24
    go_wp2_with fail
    all_goals
     refine (hNum _ _).mono ?_
     rintro _ w1 ⟨rfl,c1⟩
     have cc:=(((Chg.refl (fun _=>False) w).alloc _).alloc _).trans c1 fun _ _ h=>h
     have hs2:=JE c1
     have hz:=c1.size
     obtain ⟨p0,p1⟩:=Qd c1
     go_wp2_with fail
     refine (hNum _ _).mono ?_
     rintro _ w2 ⟨rfl,c2⟩
     have p0:=c2.heap p0 fun h=>h
     have p1:=c2.heap p1 fun h=>h
     have cc:=cc.trans c2 fun _ _ h=>h
     have hz2:=c2.size
     go_wp2_with fail
     refine (hStr _ _).mono ?_
     rintro _ w3 ⟨rfl,c3⟩
     have p0:=c3.heap p0 fun h=>h
     have p1:=c3.heap p1 fun h=>h
     have cc:=cc.trans c3 fun _ _ h=>h
     have hz3:=c3.size
     have hsz:w.heap.size+2≤w3.heap.size:=by have:=hs2; omega
     obtain ⟨q0,q1,q2,z0,z1,z2⟩:=Qo p0
     obtain ⟨r0,r1,r2,y0,y1,y2⟩:=Qo p1
     clear p0 p1 c1 c2 hz hz2 c3 hz3
     go_wp2_with fail
     refine bodyPost_ret (v := .agg #[.string ⟨#[116]⟩,.slice (some ⟨w3.heap.size,0,none⟩) 3 3,.bool rem]) ?_ rfl ?_
     ·simp only [results,show Tryz.f24.results = #[.cell 2 41] from rfl]
      go_simp
     ·exact T0 cc hsz (by first | exact HE.out _ | omega | decide) (by first | exact t1 _ | decide)
  ·clear hat hx hx0
   obtain ⟨L,hL⟩:∃ L,r.length=L:=⟨_,rfl⟩
   rw [hL] at h0 h1 ⊢
   clear hL
   have l0:(0:Int)<(L:Int):=by omega
   have l1:¬ (1:Int)<(L:Int):=by omega
   cases par
   ·go_enter Tryz.func24,Tryz.ntmps24
    go_wp2_with fail
    all_goals
     refine (hNum _ _).mono ?_
     rintro _ w1 ⟨rfl,c1⟩
     have cc:=(((Chg.refl (fun _=>False) w).alloc _).alloc _).trans c1 fun _ _ h=>h
     have hs2:=JE c1
     have hz:=c1.size
     obtain ⟨p0,p1⟩:=Qd c1
     go_wp2_with fail
     refine (hNum _ _).mono ?_
     rintro _ w2 ⟨rfl,c2⟩
     have p0:=c2.heap p0 fun h=>h
     have p1:=c2.heap p1 fun h=>h
     have cc:=cc.trans c2 fun _ _ h=>h
     have hz2:=c2.size
     have hsz:w.heap.size+2≤w2.heap.size:=by have:=hs2; omega
     obtain ⟨q0,q1,q2,z0,z1,z2⟩:=Qo p0
     obtain ⟨r0,r1,r2,y0,y1,y2⟩:=Qo p1
     clear p0 p1 c1 c2 hz hz2
     go_wp2_with fail
     refine bodyPost_ret (v := .agg #[.string ⟨#[117]⟩,.slice (some ⟨w2.heap.size,0,none⟩) 2 2,.bool rem]) ?_ rfl ?_
     ·simp only [results,show Tryz.f24.results = #[.cell 2 41] from rfl]
      go_simp
     ·exact T2 cc hsz (by first | exact t1 _ | decide)
   ·go_enter Tryz.func24,Tryz.ntmps24
    go_wp2_with fail
    all_goals
     refine (hNum _ _).mono ?_
     rintro _ w1 ⟨rfl,c1⟩
     have cc:=(((Chg.refl (fun _=>False) w).alloc _).alloc _).trans c1 fun _ _ h=>h
     have hs2:=JE c1
     have hz:=c1.size
     obtain ⟨p0,p1⟩:=Qd c1
     go_wp2_with fail
     refine (hNum _ _).mono ?_
     rintro _ w2 ⟨rfl,c2⟩
     have p0:=c2.heap p0 fun h=>h
     have p1:=c2.heap p1 fun h=>h
     have cc:=cc.trans c2 fun _ _ h=>h
     have hz2:=c2.size
     go_wp2_with fail
     refine (hStr _ _).mono ?_
     rintro _ w3 ⟨rfl,c3⟩
     have p0:=c3.heap p0 fun h=>h
     have p1:=c3.heap p1 fun h=>h
     have cc:=cc.trans c3 fun _ _ h=>h
     have hz3:=c3.size
     have hsz:w.heap.size+2≤w3.heap.size:=by have:=hs2; omega
     obtain ⟨q0,q1,q2,z0,z1,z2⟩:=Qo p0
     obtain ⟨r0,r1,r2,y0,y1,y2⟩:=Qo p1
     clear p0 p1 c1 c2 hz hz2 c3 hz3
     go_wp2_with fail
     refine bodyPost_ret (v := .agg #[.string ⟨#[116]⟩,.slice (some ⟨w3.heap.size,0,none⟩) 3 3,.bool rem]) ?_ rfl ?_
     ·simp only [results,show Tryz.f24.results = #[.cell 2 41] from rfl]
      go_simp
     ·exact T0 cc hsz (by first | exact HE.out _ | omega | decide) (by first | exact t1 _ | decide)
 ·clear hat
  obtain ⟨L,hL⟩:∃ L,r.length=L:=⟨_,rfl⟩
  rw [hL] at h0 ⊢
  clear hL
  have l0:¬ (0:Int)<(L:Int):=by omega
  have l1:¬ (1:Int)<(L:Int):=by omega
  cases par
  ·go_enter Tryz.func24,Tryz.ntmps24
   go_wp2_with fail
   all_goals
    refine (hNum _ _).mono ?_
    rintro _ w1 ⟨rfl,c1⟩
    have cc:=(((Chg.refl (fun _=>False) w).alloc _).alloc _).trans c1 fun _ _ h=>h
    have hs2:=JE c1
    have hz:=c1.size
    obtain ⟨p0,p1⟩:=Qd c1
    go_wp2_with fail
    refine (hNum _ _).mono ?_
    rintro _ w2 ⟨rfl,c2⟩
    have p0:=c2.heap p0 fun h=>h
    have p1:=c2.heap p1 fun h=>h
    have cc:=cc.trans c2 fun _ _ h=>h
    have hz2:=c2.size
    have hsz:w.heap.size+2≤w2.heap.size:=by have:=hs2; omega
    obtain ⟨q0,q1,q2,z0,z1,z2⟩:=Qo p0
    obtain ⟨r0,r1,r2,y0,y1,y2⟩:=Qo p1
    clear p0 p1 c1 c2 hz hz2
    go_wp2_with fail
    refine bodyPost_ret (v := .agg #[.string ⟨#[117]⟩,.slice (some ⟨w2.heap.size,0,none⟩) 2 2,.bool rem]) ?_ rfl ?_
    ·simp only [results,show Tryz.f24.results = #[.cell 2 41] from rfl]
     go_simp
    ·exact T2 cc hsz (by first | exact t1 _ | decide)
  ·go_enter Tryz.func24,Tryz.ntmps24
   go_wp2_with fail
   all_goals
    refine (hNum _ _).mono ?_
    rintro _ w1 ⟨rfl,c1⟩
    have cc:=(((Chg.refl (fun _=>False) w).alloc _).alloc _).trans c1 fun _ _ h=>h
    have hs2:=JE c1
    have hz:=c1.size
    obtain ⟨p0,p1⟩:=Qd c1
    go_wp2_with fail
    refine (hNum _ _).mono ?_
    rintro _ w2 ⟨rfl,c2⟩
    have p0:=c2.heap p0 fun h=>h
    have p1:=c2.heap p1 fun h=>h
    have cc:=cc.trans c2 fun _ _ h=>h
    have hz2:=c2.size
    go_wp2_with fail
    refine (hStr _ _).mono ?_
    rintro _ w3 ⟨rfl,c3⟩
    have p0:=c3.heap p0 fun h=>h
    have p1:=c3.heap p1 fun h=>h
    have cc:=cc.trans c3 fun _ _ h=>h
    have hz3:=c3.size
    have hsz:w.heap.size+2≤w3.heap.size:=by have:=hs2; omega
    obtain ⟨q0,q1,q2,z0,z1,z2⟩:=Qo p0
    obtain ⟨r0,r1,r2,y0,y1,y2⟩:=Qo p1
    clear p0 p1 c1 c2 hz hz2 c3 hz3
    go_wp2_with fail
    refine bodyPost_ret (v := .agg #[.string ⟨#[116]⟩,.slice (some ⟨w3.heap.size,0,none⟩) 3 3,.bool rem]) ?_ rfl ?_
    ·simp only [results,show Tryz.f24.results = #[.cell 2 41] from rfl]
     go_simp
    ·exact T0 cc hsz (by first | exact HE.out _ | omega | decide) (by first | exact t1 _ | decide)
end Go.Proofs.YtheflbaejhlboaaGreatDoor
